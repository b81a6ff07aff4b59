/- State-based actions that find nothing, on any board; who has lost. -/
import Derived.Test.YtpcpmblfhlcmaaaGreatDoorC6
import Derived.Test.YtpcpmblfhlcmaaaGreatDoorM
namespace Go.Proofs.YtpcpmblfhlcmaaaGreatDoor
open Go Go.Sx
set_option maxRecDepth 100000
set_option maxHeartbeats 1000000
def KTR (H : Heap) (O : Go.Sx.Own) (v : Value) (ks : List (Int × Int)) : Prop := ∃ rows, RSl H O 14 v rows ∧ rows.length = ks.length ∧ ∀ (i : Nat) (r : List Value) (k : Int × Int), rows[i]? = some r → ks[i]? = some k → g r 1 = iV k.1 ∧ g r 9 = iV k.2
theorem KTR.le {H H' : Heap} {O : Go.Sx.Own} {v : Value} {ks : List (Int × Int)} (h : KTR H O v ks) (hl : Heap.le H H') : KTR H' O v ks := let ⟨rows, h1, h2, h3⟩ := h; ⟨rows, h1.le hl, h2, h3⟩
theorem KTR.own {H : Heap} {O O' : Go.Sx.Own} {v : Value} {ks : List (Int × Int)} (h : KTR H O v ks) (ho : ∀ p ∈ O, p ∈ O') : KTR H O' v ks := let ⟨rows, h1, h2, h3⟩ := h; ⟨rows, h1.own ho, h2, h3⟩
theorem KTR.one {H : Heap} {O : Go.Sx.Own} {v : Value} {ks : List (Int × Int)} (h : KTR H O v ks) : v.oneCell' = true := let ⟨_, h1, _⟩ := h; h1.one
def nU (ks : List (Int × Int)) (c : Int) : Int × Int := if c < 0 ∨ c ≥ (ks.length : Int) then (0, 0) else ks.getD c.toNat (0, 0)
theorem xn {H : Heap} {O : Go.Sx.Own} {v : Value} {ks : List (Int × Int)} (h : KTR H O v ks) (c : Int) :
  (∃ x : Bool, (x = true ↔ (c < 0 ∨ c ≥ (ks.length : Int))) ∧ af .len [v] = some (iV ks.length) ∧ x = (decide (c < 0) || decide (c ≥ (ks.length : Int)))) ∧
  (¬ (c < 0 ∨ c ≥ (ks.length : Int)) → ∃ a r, af (.idx 14) [v, iV c] = some (.pointer (some a)) ∧ Reads H O (.pointer (some a)) 14 r ∧ r.length = 14 ∧ Ones r ∧ g r 1 = iV (nU ks c).1 ∧ g r 9 = iV (nU ks c).2) := by
 obtain ⟨rows, h1, h2, h3⟩ := h
 refine ⟨⟨_, ?_, ?_, rfl⟩, fun hn => ?_⟩
 ·simp
 ·have := h1.len; rw [this, h2]
 ·have hlt : c.toNat < rows.length := by omega
  obtain ⟨a, k1, k2, _, k3, k4⟩ := h1.idx .i64 c.toNat _ (List.getElem?_eq_getElem hlt)
  have hk : ks[c.toNat]? = some (ks.getD c.toNat (0, 0)) := by
   rw [List.getD_eq_getElem?_getD, List.getElem?_eq_getElem (by omega)]; rfl
  have e := h3 c.toNat _ _ (List.getElem?_eq_getElem hlt) hk
  refine ⟨a, _, ?_, k2, k3, k4, ?_⟩
  ·rw [show iV c = iV (c.toNat : Int) by rw [Int.toNat_of_nonneg (by omega)]]; exact k1
  ·rw [nU, if_neg hn]; exact e
theorem E8 {r : List Value} (h : r.length = 14) : ([g r 0, g r 1, g r 2, g r 3, g r 4, g r 5, g r 6, g r 7, g r 8, g r 9, g r 10, g r 11, g r 12, g r 13] : List Value) = r := by
 match r, h with
 | [_, _, _, _, _, _, _, _, _, _, _, _, _, _], _ => rfl
abbrev A8 : List Value := [.string ⟨#[]⟩, iV 0, iV 0, iV 0, iV 0, iV 0, iV 0, iV 0, iV 0, iV 0, iV 0, .slice none 0 0, .slice none 0 0, iV 0]
def GE (ks : List (Int × Int)) (c : Int) (r : Value) (_ : Heap) : Prop := ∃ cells : List Value, r = .agg cells.toArray ∧ cells.length = 14 ∧ Ones cells ∧ g cells 1 = iV (nU ks c).1 ∧ g cells 9 = iV (nU ks c).2
theorem xY {H : Heap} {O : Go.Sx.Own} {v : Value} {ks : List (Int × Int)} (h : KTR H O v ks) (o : Ob) : Triple PP gI [v, .agg o.row.toArray] H O fun r H' O' => GE ks o.card r H' ∧ O' = O := by
 refine gX (vs := v :: o.row) (by kernel_rfl) ⟨h.one, fB o⟩ ?_
 simp only [gC]
 obtain ⟨⟨x, hx, hlen, ex⟩, hlook⟩ := xn (O := O) h o.card
 refine an fun r0 => an fun r1 => ?_
 refine ae ?_
 refine ab _ (bJ _ _) ?_
 refine ae (ai (ai ?_))
 refine ab _ hlen ?_
 refine ai (ai (ab _ (nR _ _) (ai (ab _ (bQ _ _) ?_))))
 refine au (fun hb => ?_) (fun hb => ?_)
 ·have hb : (decide (o.card < 0) || decide (o.card ≥ (ks.length : Int))) = true := hb
  rw [← ex] at hb
  refine ae (ae ?_)
  refine ak ⟨⟨A8, rfl, rfl, ⟨rfl, rfl, rfl, rfl, rfl, rfl, rfl, rfl, rfl, rfl, rfl, rfl, rfl, rfl, trivial⟩, ?_⟩, rfl⟩
  rw [nU, if_pos (hx.1 hb)]; exact ⟨rfl, rfl⟩
 ·have hb : (decide (o.card < 0) || decide (o.card ≥ (ks.length : Int))) = false := hb
  rw [← ex] at hb
  obtain ⟨a, r, k1, k2, k3, k4, k5⟩ := hlook (fun e => by rw [hx.2 e] at hb; cases hb)
  refine ae ?_
  refine ab _ k1 (ba k2 k3 k4 ?_)
  refine ae (ae ?_)
  exact ak ⟨⟨r, by rw [← E8 k3]; rfl, k3, k4, k5⟩, rfl⟩
def crA (ks : List (Int × Int)) (o : Ob) : Bool := o.card == -1 || (nU ks o.card).1 == 2
theorem ug {H : Heap} {O : Go.Sx.Own} {v : Value} {ks : List (Int × Int)} (h : KTR H O v ks) (o : Ob) : RetO PP fZ [v, .agg o.row.toArray] H O (.bool (crA ks o)) := by
 refine jr (vs := v :: o.row) (by kernel_rfl) ⟨h.one, fB o⟩ ?_
 simp only [fY]
 refine an fun r0 => ?_
 refine ae ?_
 refine ab _ (fU _ _) (au (fun hb => ak ⟨?_, rfl⟩) (fun hb => ?_))
 ·have hb : (o.card == -1) = true := hb
  rw [crA, hb]; rfl
 ·have hb : (o.card == -1) = false := hb
  refine ae ?_
  refine dQ (xY h o) ?_
  rintro _ H1 ⟨cells, rfl, k1, k2, k3, _⟩ l1
  refine ⟨cells, by simp [Shp.open, k1], k2, ?_⟩
  dsimp only
  rw [k3]
  refine ab _ (fU _ _) ?_
  refine ak ⟨?_, rfl⟩
  rw [crA, hb]; rfl
def Gg (ks : List (Int × Int)) (o : Ob) : Int := E3 (E3 (if o.card == -1 then o.tough else (nU ks o.card).2) o.cnt) o.pt
theorem EL {H : Heap} {O : Go.Sx.Own} {v : Value} {ks : List (Int × Int)} (h : KTR H O v ks) (o : Ob) :
  Triple PP kM [v, .agg o.row.toArray] H O fun r _ O' => (∃ p, r = .tuple #[p, iV (if o.card == -1 then o.tough else (nU ks o.card).2)] ∧ p.oneCell' = true) ∧ O' = O := by
 refine mU (vs := v :: o.row) (by kernel_rfl) ⟨h.one, fB o⟩ ?_
 simp only [kA]
 refine an fun r0 => ?_
 refine ae ?_
 refine ab _ (fU _ _) (au (fun hb => ?_) (fun hb => ?_))
 ·have hb : (o.card == -1) = true := hb
  refine ae (ae ?_)
  refine ak ⟨⟨iV o.power, ?_, rfl⟩, rfl⟩
  rw [hb]; rfl
 ·have hb : (o.card == -1) = false := hb
  refine ae ?_
  refine dQ (xY h o) ?_
  rintro _ H1 ⟨cells, rfl, k1, k2, _, k3⟩ l1
  refine ⟨cells, by simp [Shp.open, k1], k2, an fun r1 => ?_⟩
  refine ae (ae (ae ?_))
  refine ak ⟨⟨g cells 8, ?_, k2.get 8 (by omega)⟩, rfl⟩
  rw [hb, k3]; rfl
structure SmO (ks : List (Int × Int)) (o : Ob) : Prop where
 t : smA o.tough
 c : smA o.cnt
 p : smA o.pt
 k : smA (nU ks o.card).2
theorem AT {H : Heap} {O : Go.Sx.Own} {v : Value} {ks : List (Int × Int)} (h : KTR H O v ks) {o : Ob} (hs : SmO ks o) : RetO PP fu [v, .agg o.row.toArray] H O (iV (Gg ks o)) := by
 refine iY (vs := v :: o.row) (by kernel_rfl) ⟨h.one, fB o⟩ ?_
 simp only [fq]
 refine an fun r0 => ?_
 refine ae ?_
 refine dQ (EL h o) ?_
 rintro _ H1 ⟨p, rfl, hp⟩ l1
 refine ⟨[p, iV _], rfl, ⟨hp, rfl, trivial⟩, ?_⟩
 refine ae (ae ?_)
 have hb : smA (if o.card == -1 then o.tough else (nU ks o.card).2) := by split; exact hs.t; exact hs.k
 refine am (uV hb hs.c) rfl ⟨rfl, trivial⟩ fun H2 l2 => ?_
 refine am (uV ?_ hs.p) rfl ⟨rfl, trivial⟩ fun H3 l3 => ak ⟨rfl, rfl⟩
 unfold E3 smA
 omega
def vK (ks : List (Int × Int)) (o : Ob) : Bool := crA ks o && ((o.doom || (Gg ks o == 0)) || decide (o.dmg ≥ Gg ks o))
theorem EO {H : Heap} {O : Go.Sx.Own} {v : Value} {ks : List (Int × Int)} (h : KTR H O v ks) {o : Ob} (hs : SmO ks o) : RetO PP kO [v, .agg o.row.toArray] H O (.bool (vK ks o)) := by
 refine mV (vs := v :: o.row) (by kernel_rfl) ⟨h.one, fB o⟩ ?_
 simp only [kB]
 refine an fun r0 => ?_
 refine ae ?_
 refine am (ug h o) rfl ⟨rfl, trivial⟩ fun H1 l1 => ab _ (aI _) (au (fun hb => ak ⟨?_, rfl⟩) (fun hb => ?_))
 ·rw [vK, tG hb]; rfl
 ·have hc : crA ks o = true := tH hb
  refine ae ?_
  refine am (AT (h.le l1) hs) rfl ⟨rfl, trivial⟩ fun H2 l2 => ?_
  refine ae (ai ?_)
  refine ab _ (fU _ _) ?_
  refine ai ?_
  refine ab _ (bQ _ _) ?_
  refine ae (ai (ai (ai ?_)))
  refine ab _ (ik _ _) ?_
  refine ai ?_
  refine ab _ (bQ _ _) (ak ⟨?_, rfl⟩)
  rw [vK, hc]; rfl
theorem xX {H : Heap} {O : Go.Sx.Own} {v : jK} {b : Bd} (h : BdR H O v b) (hv : aC b = true) {f : FuncId} {caps : Array Value} (hok : gU PP f)
  (hp : ∀ H', Heap.le H H' → ∀ o ∈ b.objs, RetO PP f ([.agg o.row.toArray, .bool ((pq b o.owner).field.contains o.id)] ++ caps.toList) H' O (.bool false)) :
  RetO PP qm [.agg (bq v b).toArray, .func (.func f) #[] caps] H O (.slice none 0 0) := by
 refine rP (vs := bq v b ++ [.func (.func f) #[] caps]) (by kernel_rfl) (eV (bE h) ⟨rfl, trivial⟩) ?_
 simp only [qi]
 refine an fun r0 => ?_
 have lo := h.objs.len
 rw [List.length_map] at lo
 have h5 := rB hv
 refine ae ?_
 refine ab _ lo ?_
 refine pY b.objs.length (fun i x H' O' => O' = O ∧ x = .slice none 0 0 ∧ Heap.le H H') ⟨rfl, rfl, Heap.le_refl _⟩ ?_
 rintro i x H' O' hi - ⟨rfl, rfl, hle⟩
 refine ab _ (bJ _ _) (au (fun hb => ?_) (fun hb => ak ⟨rfl, rfl⟩))
 have hlt : i < b.objs.length := by simpa using hb
 have hm := List.getElem_mem hlt
 have hr := h.le hle
 obtain ⟨a, i1, i2, _, i3, i4⟩ := hr.objs.idx .i64 i (Ob.row b.objs[i]) (by simp [hlt])
 refine ab _ i1 (ba i2 i3 i4 (an fun r1 => ?_))
 unfold iD iE
 refine ae (ae (ae ?_))
 have hpl : cB bG b = true := by
  simp only [aC, Bool.and_eq_true] at hv
  exact hv.2.2.2.2.2.2.2.2.2.1
 have hown := (xc hpl (List.getElem?_eq_getElem hlt)).2.2.2
 refine ⟨.i64, b.objs[i].owner, rfl, fun h0 => ?_, fun hne => ⟨.i64, b.objs[i].owner, rfl, fun h1 => ?_, fun hne' => ?_⟩⟩
 ·refine ae (ae ?_)
  refine am (bN hr.s0.field b.objs[i].id) rfl ⟨rfl, trivial⟩ fun H3 l3 => ?_
  have hp1 := hp H3 (Heap.le_trans hle l3) _ hm
  rw [show (pq b b.objs[i].owner).field = b.s0.field by rw [h0]; rfl] at hp1
  refine fW rfl hok hp1 rfl ⟨rfl, trivial⟩ fun H4 l4 => au (fun hd => by cases hd) (fun _ => ?_)
  refine ab _ (bX (by omega)) (di (by simp [Eqs, E]) hlt ⟨rfl, rfl, Heap.le_trans hle (Heap.le_trans l3 l4)⟩)
 ·refine ae (ae ?_)
  refine am (bN hr.s1.field b.objs[i].id) rfl ⟨rfl, trivial⟩ fun H3 l3 => ?_
  have hp1 := hp H3 (Heap.le_trans hle l3) _ hm
  rw [show (pq b b.objs[i].owner).field = b.s1.field by rw [h1]; rfl] at hp1
  refine fW rfl hok hp1 rfl ⟨rfl, trivial⟩ fun H4 l4 => au (fun hd => by cases hd) (fun _ => ?_)
  refine ab _ (bX (by omega)) (di (by simp [Eqs, E]) hlt ⟨rfl, rfl, Heap.le_trans hle (Heap.le_trans l3 l4)⟩)
 ·omega
theorem sB {H : Heap} {O O' : Go.Sx.Own} {v : Value} {l : List It} (h : ItsR H O v l) (ho : ∀ p ∈ O, p ∈ O') : ItsR H O' v l :=
 let ⟨rows, h1, h2, h3⟩ := h; ⟨rows, h1.own ho, h2, fun i r x a b => let ⟨s, e, k⟩ := h3 i r x a b; ⟨s, e, k.own ho⟩⟩
theorem uX {H : Heap} {O O' : Go.Sx.Own} {v : jK} {b : Bd} (h : BdR H O v b) (ho : ∀ p ∈ O, p ∈ O') : BdR H O' v b :=
 ⟨h.objs.own ho, ⟨h.s0.lib.own ho, h.s0.hand.own ho, h.s0.field.own ho, h.s0.grave.own ho⟩, ⟨h.s1.lib.own ho, h.s1.hand.own ho, h.s1.field.own ho, h.s1.grave.own ho⟩, sB h.stack ho, sB h.queue ho, h.att.own ho, h.blocks.own ho⟩
abbrev gpA (k : Nat) : Value := .pointer (some ⟨k, 0, none⟩)
theorem xo {P : Program} {gd : Gd} {g : Nat} {cs : List Value} {T : TypeId} {off m : Nat} {k : List Value → Tree} {H : Heap} {O : Go.Sx.Own} {Q : Value → Heap → Go.Sx.Own → Prop} (h : (g, Obj.cells cs.toArray T (0, 0)) ∈ O) (vs : List Value) (hv : (cs.drop off).take m = vs) (hl : vs.length = m) (ho : Ones vs) (hk : (k vs).den P Q H O) :
  (Tree.load gd (.pointer (some ⟨g, off, none⟩)) m k).den P Q H O :=
 ⟨vs, hl, ho, fun _ => .inr ⟨⟨g, off, none⟩, cs.toArray, T, rfl, rfl, h, by simpa using hv, hl⟩, hk⟩
theorem AO (o : Ob) (f : Bool) (H : Heap) (O : Go.Sx.Own) : RetO PP mc ([.agg o.row.toArray, .bool f] ++ (#[] : Array Value).toList) H O (.bool (decide (o.card < 0) && !f)) := by
 refine oU (vs := o.row ++ [.bool f]) (by kernel_rfl) (eV (fB o) ⟨rfl, trivial⟩) ?_
 simp only [lW]
 refine an fun r0 => ?_
 refine ae ?_
 refine ab _ (bJ _ _) ?_
 refine ai ?_
 refine ab _ (aI _) ?_
 refine ai ?_
 exact ab _ (dt _ _) (ak ⟨rfl, rfl⟩)
theorem yc {H : Heap} {O : Go.Sx.Own} {cv : Value} {ks : List (Int × Int)} (hk : KTR H O cv ks) {o : Ob} (hs : SmO ks o) {r : Nat} {T : TypeId} (hm : (r, Obj.cells #[cv] T (0, 0)) ∈ O) (f : Bool) :
  RetO PP kK ([.agg o.row.toArray, .bool f] ++ (#[gpA r] : Array Value).toList) H O (.bool (f && vK ks o)) := by
 refine mR (vs := o.row ++ [.bool f, gpA r]) (by kernel_rfl) (eV (fB o) ⟨rfl, rfl, trivial⟩) ?_
 simp only [kw]
 refine an fun r0 => ?_
 refine au (fun hd => ?_) (fun hd => ?_)
 ·have hf : f = true := hd
  refine xo (cs := [cv]) hm [cv] rfl rfl ⟨hk.one, trivial⟩ ?_
  refine ae ?_
  refine am (EO hk hs) rfl ⟨rfl, trivial⟩ fun H1 l1 => ak ⟨?_, rfl⟩
  rw [hf]; rfl
 ·have hf : f = false := hd
  exact ak ⟨by rw [hf]; rfl, rfl⟩
def E1 (b : Bd) (o : Ob) : Bool := (pq b o.owner).field.contains o.id
def smB (n : Int) : Bool := decide (-1000000000 ≤ n) && decide (n ≤ 1000000000)
theorem mt {n : Int} (h : smB n = true) : smA n := by
 simp only [smB, Bool.and_eq_true, decide_eq_true_eq] at h
 exact h
def vO (ks : List (Int × Int)) (b : Bd) (o : Ob) : Bool := (smB o.tough && (smB o.cnt && (smB o.pt && smB (nU ks o.card).2))) && (!(decide (o.card < 0) && !E1 b o) && !(E1 b o && vK ks o))
theorem qc {ks : List (Int × Int)} {b : Bd} {o : Ob} (h : vO ks b o = true) : SmO ks o ∧ (decide (o.card < 0) && !E1 b o) = false ∧ (E1 b o && vK ks o) = false := by
 unfold vO at h
 rw [Bool.and_eq_true, Bool.and_eq_true, Bool.and_eq_true, Bool.and_eq_true, Bool.and_eq_true] at h
 obtain ⟨⟨h1, h2, h3, h4⟩, h5, h6⟩ := h
 exact ⟨⟨mt h1, mt h2, mt h3, mt h4⟩, (by rw [Bool.not_eq_true'] at h5; exact h5), (by rw [Bool.not_eq_true'] at h6; exact h6)⟩
theorem AS {H : Heap} {O : Go.Sx.Own} {cv : Value} {ks : List (Int × Int)} (hk : KTR H O cv ks) {v : jK} {b : Bd} (h : BdR H O v b) (hv : aC b = true) (hc : b.objs.all (vO ks b) = true) :
  RetO PP oO [cv, .agg (bq v b).toArray] H O (.slice none 0 0) := by
 refine qy (vs := cv :: bq v b) (by kernel_rfl) ⟨hk.one, bE h⟩ ?_
 simp only [oK]
 refine an fun r0 => an fun r1 => ?_
 refine ae ?_
 refine xT (own := [⟨r0, 25, [cv]⟩]) (O1 := O) (O2 := []) (by simp) (R := fun x _ O3 => x = .slice none 0 0 ∧ O3 = O) ?_ ⟨rfl, ⟨hk.one, trivial⟩, trivial⟩ ?_
 ·refine Triple.mono (xX (O := [(r0, _)] ++ O) (caps := #[gpA r0]) (uX h fun p hp => List.mem_append_right _ hp) hv (eI fP (by decide)) fun H' hl o hm => ?_) ?_
  ·have hs := qc (List.all_eq_true.1 hc o hm)
   have := yc ((hk.own fun p hp => List.mem_append_right [(r0, Obj.cells [cv].toArray 25 (0, 0))] hp).le hl) hs.1 (r := r0) (T := 25) List.mem_cons_self (E1 b o)
   rw [hs.2.2] at this
   exact this
  ·rintro x _ _ _ ⟨rfl, rfl⟩
   exact ⟨O, rfl, rfl, rfl⟩
 ·rintro _ H1 _ ⟨rfl, rfl⟩ l1
  refine ⟨[.slice none 0 0], rfl, ⟨rfl, trivial⟩, ?_⟩
  exact ak ⟨rfl, by simp⟩
theorem EK {H : Heap} {O : Go.Sx.Own} {ks : List (Int × Int)} {v : jK} {b : Bd} (h : BdR H O v b) (hv : aC b = true) (hc : b.objs.all (vO ks b) = true) :
  RetO PP qn [.agg (bq v b).toArray] H O (.slice none 0 0) := by
 refine rQ (vs := bq v b) (by kernel_rfl) (bE h) ?_
 simp only [qj]
 refine an fun r0 => ?_
 refine ae ?_
 refine am (xX (caps := #[]) h hv (eI fP (by decide)) fun H' _ o hm => ?_) rfl ⟨rfl, trivial⟩ fun H1 l1 => ?_
 ·have hs := qc (List.all_eq_true.1 hc o hm)
  have := AO o (E1 b o) H' O
  rw [hs.2.1] at this
  exact this
 exact ak ⟨rfl, rfl⟩
theorem yg {H : Heap} {O : Go.Sx.Own} {cv : Value} {ks : List (Int × Int)} (hk : KTR H O cv ks) {v : jK} {b : Bd} (h : BdR H O v b) (hv : aC b = true) (hc : b.objs.all (vO ks b) = true) :
  RetO PP iF [cv, .agg (bq v b).toArray] H O (.bool true) := by
 refine oV (vs := cv :: bq v b) (by kernel_rfl) ⟨hk.one, bE h⟩ ?_
 simp only [lX]
 refine an fun r0 => ?_
 refine ae ?_
 refine am (gA h) rfl ⟨rfl, trivial⟩ fun H1 l1 => ?_
 rw [hv]
 refine au (fun _ => ?_) (fun hd => by cases hd)
 refine ae (ae ?_)
 refine am (AS (hk.le l1) (h.le l1) hv hc) rfl ⟨rfl, trivial⟩ fun H2 l2 => ?_
 refine ab (iV 0) rfl ?_
 refine am (EK (h.le (Heap.le_trans l1 l2)) hv hc) rfl ⟨rfl, trivial⟩ fun H3 l3 => ?_
 exact ab (iV 0) rfl (ab (iV 0) rfl (ab (.bool true) rfl (ak ⟨rfl, rfl⟩)))
def xl (b : Bd) : Bool := b.s0.empty || (b.s0.life == 0)
def xk (b : Bd) : Bool := b.s1.empty || (b.s1.life == 0)
theorem EN {H : Heap} {O : Go.Sx.Own} {v : jK} {b : Bd} (h : BdR H O v b) : RetO PP lB [.agg (bq v b).toArray] H O (.agg #[.bool (xl b), .bool (xk b)]) := by
 refine rR (vs := bq v b) (by kernel_rfl) (bE h) ?_
 simp only [qk]
 refine an fun r0 => an fun r1 => ?_
 refine ae ?_
 refine an fun r2 => ?_
 refine ae (ae (ae (ai (ai ?_))))
 refine ab _ (fU _ _) ?_
 refine ai ?_
 refine ab _ (bQ _ _) ?_
 refine ae ?_
 refine an fun r3 => ?_
 refine ae (ae (ae (ai (ai ?_))))
 refine ab _ (fU _ _) ?_
 refine ai ?_
 refine ab _ (bQ _ _) ?_
 refine ae (ae (ae (ae ?_)))
 exact ak ⟨rfl, rfl⟩
def FN : At → Bool
 | .k x => x.oneCell'
 | .sl .. => true
 | .p .. => true
 | _ => false
theorem xK {a : At} (h : FN a = true) : a.known = true ∧ a.den.oneCell' = true := by
 cases a <;> simp only [FN, Bool.false_eq_true] at h <;> first | exact ⟨rfl, h⟩ | exact ⟨rfl, rfl⟩
theorem q4 : ∀ {l : List At}, l.all FN = true → l.all At.known = true ∧ Ones (l.map At.den)
 | [], _ => ⟨rfl, trivial⟩
 | a :: r, h => by
  simp only [List.all_cons, Bool.and_eq_true] at h
  obtain ⟨h1, h2⟩ := xK h.1
  obtain ⟨h3, h4⟩ := q4 h.2
  exact ⟨by simp [h1, h3], h2, h4⟩
def dKT (cs : List At) : Option (List Ck × (Int × Int)) :=
 if (cs.all FN && Nat.beq cs.length 14) = true then
  match (cs[1]? : Option At), (cs[9]? : Option At) with
  | some (At.k (.int .i64 k)), some (At.k (.int .i64 t)) => some ([], (k, t))
  | _, _ => none
 else none
theorem FO : oR 14 dKT fun r k => g r 1 = iV k.1 ∧ g r 9 = iV k.2 := by
 intro cs k a h hk
 unfold dKT at h
 split at h
 ·rename_i hc
  rw [Bool.and_eq_true] at hc
  obtain ⟨h1, h2⟩ := q4 hc.1
  split at h
  ·rename_i e1 e2
   simp only [Option.some.injEq, Prod.mk.injEq] at h
   obtain ⟨rfl, rfl⟩ := h
   refine ⟨Nat.eq_of_beq_eq_true hc.2, h1, ⟨?_, ?_⟩, h2⟩
   ·simp [g, List.getD_eq_getElem?_getD, List.getElem?_map, e1, At.den]
   ·simp [g, List.getD_eq_getElem?_getD, List.getElem?_map, e2, At.den]
  ·cases h
 ·cases h
def sumSt : SumF := fun f args mem _ =>
 if Nat.beq f iF = true then
  match args with
  | [.at cv, .agg l] =>
   match dBd mem l with
   | some (k, _, b) => match slD mem 14 dKT cv with
    | some (k2, ks) => if (aC b && b.objs.all (vO ks b)) = true then some (k ++ k2, .s (.at (.k (.bool true)))) else none
    | none => none
   | none => none
  | _ => none
 else none
theorem yJ {ok : FuncId → Bool} {H : Heap} : SumOk PP ok H sumSt := by
 intro f args mem h cs sv _ hs hck
 unfold sumSt at hs
 split at hs
 ·rename_i hf
  have hf := Nat.eq_of_beq_eq_true hf
  subst hf
  split at hs
  ·rename_i cv l
   split at hs
   ·rename_i k v b hd
    split at hs
    ·rename_i k2 ks hd2
     split at hs
     ·rename_i hc
      rw [Bool.and_eq_true] at hc
      simp only [Option.some.injEq, Prod.mk.injEq] at hs
      obtain ⟨rfl, rfl⟩ := hs
      rw [AllCk.append] at hck
      refine ⟨jZ _, fun F w next _ hm => ?_⟩
      obtain ⟨L, O, hB, hok, hM, hmod, hfr⟩ := hm
      obtain ⟨h1, h2⟩ := sP hd hck.1 hB H
      obtain ⟨_, rows, r1, r2, r3⟩ := rK FO hd2 hck.2 hB H
      have hret := Triple.frame (yg (O := L) ⟨rows, r1, r2, r3⟩ h2 hc.1 hc.2) O
      have e : (([S1.at cv, S1.agg l] : List S1).map S1.den).toArray = [cv.den, Value.agg (bq v b).toArray].toArray := by simp [S1.den, h1]
      rw [e]
      refine (hret w F (by simpa using hmod)).mono ?_
      rintro e' w' ⟨v', H', O', he, ⟨O'', q1, q2, q3⟩, hle, hm'⟩
      rw [q1, q3] at hm'
      exact ⟨v', he, q2, L, O, hB, hok, hM, by simpa using hm'.less hle, hfr⟩
     ·cases hs
    ·cases hs
   ·cases hs
  ·cases hs
 ·cases hs
def Gi (fv : Nat) (val : Bd → SV) : SumF := fun f args mem _ =>
 if Nat.beq f fv = true then
  match args with
  | [.agg l] => match dBd mem l with
   | some (k, _, b) => some (k, val b)
   | none => none
  | _ => none
 else none
theorem BB {ok : FuncId → Bool} {fv : Nat} {val : Bd → SV} {vv : Bd → Value} (hval : ∀ b, (val b).ok ∧ (val b).rel (vv b)) (hc : ∀ (H : Heap) (O : Go.Sx.Own) (v : jK) (b : Bd), BdR H O v b → RetO PP fv [.agg (bq v b).toArray] H O (vv b)) (H : Heap) : SumOk PP ok H (Gi fv val) := by
 intro f args mem h cs sv _ hs hck
 unfold Gi at hs
 split at hs
 ·rename_i hf
  have hf : f = fv := Nat.eq_of_beq_eq_true hf
  subst hf
  split at hs
  ·rename_i l
   split at hs
   ·rename_i k v b hd
    simp only [Option.some.injEq, Prod.mk.injEq] at hs
    obtain ⟨rfl, rfl⟩ := hs
    refine ⟨(hval b).1, fun F w next _ hm => ?_⟩
    obtain ⟨L, O, hB, hok, hM, hmod, hfr⟩ := hm
    obtain ⟨h1, h2⟩ := sP hd hck hB H
    have hret := Triple.frame (hc H L v b h2) O
    have e : (([S1.agg l] : List S1).map S1.den).toArray = [Value.agg (bq v b).toArray].toArray := by simp [S1.den, h1]
    rw [e]
    refine (hret w F (by simpa using hmod)).mono ?_
    rintro e' w' ⟨v', H', O', he, ⟨O'', q1, q2, q3⟩, hle, hm'⟩
    rw [q1, q3] at hm'
    exact ⟨v', he, by rw [q2]; exact (hval b).2, L, O, hB, hok, hM, by simpa using hm'.less hle, hfr⟩
   ·cases hs
  ·cases hs
 ·cases hs
def Bh (b : Bd) : SV := .s (.agg [.k (.bool (xl b)), .k (.bool (xk b))])
def sumLo : SumF := Gi lB Bh
theorem yU {ok : FuncId → Bool} {H : Heap} : SumOk PP ok H sumLo :=
 BB (val := Bh) (vv := fun b => .agg #[.bool (xl b), .bool (xk b)]) (fun b => ⟨by
  intro a ha
  simp only [S1.cells, List.mem_cons, List.not_mem_nil, or_false] at ha
  rcases ha with rfl | rfl <;> trivial, cg rfl⟩) (fun _ _ _ _ h => EN h) H
def Gx (n : Int) : Bool := decide (-9223372036854775808 ≤ n) && decide (n ≤ 9223372036854775807)
theorem xE {n : Int} (h : Gx n = true) : i64 n := by
 simp only [Gx, Bool.and_eq_true, decide_eq_true_eq] at h
 exact h
def F4 (fv : Nat) (val : Bd → Int → SV) : SumF := fun f args mem _ =>
 if Nat.beq f fv = true then
  match args with
  | [.agg l, .at (.k (.int .i64 id))] => if Gx id = true then
    match dBd mem l with
    | some (k, _, b) => some (k, val b id)
    | none => none
   else none
  | _ => none
 else none
theorem wn {ok : FuncId → Bool} {fv : Nat} {val : Bd → Int → SV} {vv : Bd → Int → Value} (hval : ∀ b n, (val b n).ok ∧ (val b n).rel (vv b n))
  (hc : ∀ (H : Heap) (O : Go.Sx.Own) (v : jK) (b : Bd) (id : Int), BdR H O v b → i64 id → RetO PP fv [.agg (bq v b).toArray, iV id] H O (vv b id)) (H : Heap) : SumOk PP ok H (F4 fv val) := by
 intro f args mem h cs sv _ hs hck
 unfold F4 at hs
 split at hs
 ·rename_i hf
  have hf : f = fv := Nat.eq_of_beq_eq_true hf
  subst hf
  split at hs
  ·rename_i l id
   split at hs
   ·rename_i hid
    split at hs
    ·rename_i k v b hd
     simp only [Option.some.injEq, Prod.mk.injEq] at hs
     obtain ⟨rfl, rfl⟩ := hs
     refine ⟨(hval b id).1, fun F w next _ hm => ?_⟩
     obtain ⟨L, O, hB, hok, hM, hmod, hfr⟩ := hm
     obtain ⟨h1, h2⟩ := sP hd hck hB H
     have hret := Triple.frame (hc H L v b id h2 (xE hid)) O
     have e : (([S1.agg l, S1.at (.k (.int .i64 id))] : List S1).map S1.den).toArray = [Value.agg (bq v b).toArray, iV id].toArray := by simp [S1.den, h1, At.den]
     rw [e]
     refine (hret w F (by simpa using hmod)).mono ?_
     rintro e' w' ⟨v', H', O', he, ⟨O'', q1, q2, q3⟩, hle, hm'⟩
     rw [q1, q3] at hm'
     exact ⟨v', he, by rw [q2]; exact (hval b id).2, L, O, hB, hok, hM, by simpa using hm'.less hle, hfr⟩
    ·cases hs
   ·cases hs
  ·cases hs
 ·cases hs
def Gp (o : Ob) : List At := [.k (.int .i64 o.id), .k (.int .i64 o.card), .k (.int .i64 o.owner), .k (.int .i64 o.power), .k (.int .i64 o.tough), .k (.int .i64 o.dmg), .k (.int .i64 o.cnt), .k (.int .i64 o.pp), .k (.int .i64 o.pt), .k (.bool o.tap), .k (.bool o.sick), .k (.bool o.doom)]
theorem Eo (o : Ob) : ∀ a ∈ Gp o, a.ok := by
 intro a ha
 simp only [Gp, List.mem_cons, List.not_mem_nil, or_false] at ha
 rcases ha with rfl | rfl | rfl | rfl | rfl | rfl | rfl | rfl | rfl | rfl | rfl | rfl <;> trivial
def Bm (b : Bd) (id : Int) : SV := .tup [.agg (Gp (tY b id)), .at (.k (.int .i64 (eZ b id)))]
def sumFi : SumF := F4 iI Bm
theorem yX {ok : FuncId → Bool} {H : Heap} : SumOk PP ok H sumFi :=
 wn (val := Bm) (vv := fun b id => .tuple #[.agg (tY b id).row.toArray, iV (eZ b id)]) (fun b n => ⟨by
  intro x hx
  simp only [List.mem_cons, List.not_mem_nil, or_false] at hx
  rcases hx with rfl | rfl
  ·exact Eo _
  ·exact jZ _, rfl⟩) (fun _ _ _ _ _ h hid => FV h hid) H
def xw (b : Bd) (id : Int) : SV := .tup [.at (.k (.int .i64 (lJ b id))), .at (.k (.int .i64 (eZ b id)))]
def sumIx : SumF := F4 gJ xw
theorem yW {ok : FuncId → Bool} {H : Heap} : SumOk PP ok H sumIx :=
 wn (val := xw) (vv := fun b id => .tuple #[iV (lJ b id), iV (eZ b id)]) (fun b n => ⟨by
  intro x hx
  simp only [List.mem_cons, List.not_mem_nil, or_false] at hx
  rcases hx with rfl | rfl <;> exact jZ _, rfl⟩) (fun _ _ _ _ _ h hid => yb h hid) H
def KSR (H : Heap) (O : Go.Sx.Own) (v : Value) (ks : List (Int × Int)) : Prop := ∃ rows, RSl H O 14 v rows ∧ rows.length = ks.length ∧ ∀ (i : Nat) (r : List Value) (k : Int × Int), rows[i]? = some r → ks[i]? = some k → g r 1 = iV k.1 ∧ g r 7 = iV k.2 ∧ g r 11 = .slice none 0 0 ∧ g r 12 = .slice none 0 0
theorem KSR.le {H H' : Heap} {O : Go.Sx.Own} {v : Value} {ks : List (Int × Int)} (h : KSR H O v ks) (hl : Heap.le H H') : KSR H' O v ks := let ⟨rows, h1, h2, h3⟩ := h; ⟨rows, h1.le hl, h2, h3⟩
theorem KSR.own {H : Heap} {O O' : Go.Sx.Own} {v : Value} {ks : List (Int × Int)} (h : KSR H O v ks) (ho : ∀ p ∈ O, p ∈ O') : KSR H O' v ks := let ⟨rows, h1, h2, h3⟩ := h; ⟨rows, h1.own ho, h2, h3⟩
theorem KSR.one {H : Heap} {O : Go.Sx.Own} {v : Value} {ks : List (Int × Int)} (h : KSR H O v ks) : v.oneCell' = true := let ⟨_, h1, _⟩ := h; h1.one
theorem xm {H : Heap} {O : Go.Sx.Own} {v : Value} {ks : List (Int × Int)} (h : KSR H O v ks) (c : Int) :
  (∃ x : Bool, (x = true ↔ (c < 0 ∨ c ≥ (ks.length : Int))) ∧ af .len [v] = some (iV ks.length) ∧ x = (decide (c < 0) || decide (c ≥ (ks.length : Int)))) ∧
  (¬ (c < 0 ∨ c ≥ (ks.length : Int)) → ∃ a r, af (.idx 14) [v, iV c] = some (.pointer (some a)) ∧ Reads H O (.pointer (some a)) 14 r ∧ r.length = 14 ∧ Ones r ∧ g r 1 = iV (nU ks c).1 ∧ g r 7 = iV (nU ks c).2 ∧ g r 11 = .slice none 0 0 ∧ g r 12 = .slice none 0 0) := by
 obtain ⟨rows, h1, h2, h3⟩ := h
 refine ⟨⟨_, ?_, ?_, rfl⟩, fun hn => ?_⟩
 ·simp
 ·have := h1.len; rw [this, h2]
 ·have hlt : c.toNat < rows.length := by omega
  obtain ⟨a, k1, k2, _, k3, k4⟩ := h1.idx .i64 c.toNat _ (List.getElem?_eq_getElem hlt)
  have hk : ks[c.toNat]? = some (ks.getD c.toNat (0, 0)) := by
   rw [List.getD_eq_getElem?_getD, List.getElem?_eq_getElem (by omega)]; rfl
  have e := h3 c.toNat _ _ (List.getElem?_eq_getElem hlt) hk
  refine ⟨a, _, ?_, k2, k3, k4, ?_⟩
  ·rw [show iV c = iV (c.toNat : Int) by rw [Int.toNat_of_nonneg (by omega)]]; exact k1
  ·rw [nU, if_neg hn]; exact e
def FY (ks : List (Int × Int)) (c : Int) (r : Value) (_ : Heap) : Prop := ∃ cells : List Value, r = .agg cells.toArray ∧ cells.length = 14 ∧ Ones cells ∧ g cells 1 = iV (nU ks c).1 ∧ g cells 7 = iV (nU ks c).2 ∧ g cells 11 = .slice none 0 0 ∧ g cells 12 = .slice none 0 0
theorem EJ {H : Heap} {O : Go.Sx.Own} {v : Value} {ks : List (Int × Int)} (h : KSR H O v ks) (o : Ob) : Triple PP gI [v, .agg o.row.toArray] H O fun r H' O' => FY ks o.card r H' ∧ O' = O := by
 refine gX (vs := v :: o.row) (by kernel_rfl) ⟨h.one, fB o⟩ ?_
 simp only [gC]
 obtain ⟨⟨x, hx, hlen, ex⟩, hlook⟩ := xm (O := O) h o.card
 refine an fun r0 => an fun r1 => ?_
 refine ae ?_
 refine ab _ (bJ _ _) ?_
 refine ae (ai (ai ?_))
 refine ab _ hlen ?_
 refine ai (ai (ab _ (nR _ _) (ai (ab _ (bQ _ _) ?_))))
 refine au (fun hb => ?_) (fun hb => ?_)
 ·have hb : (decide (o.card < 0) || decide (o.card ≥ (ks.length : Int))) = true := hb
  rw [← ex] at hb
  refine ae (ae ?_)
  refine ak ⟨⟨A8, rfl, rfl, ⟨rfl, rfl, rfl, rfl, rfl, rfl, rfl, rfl, rfl, rfl, rfl, rfl, rfl, rfl, trivial⟩, ?_⟩, rfl⟩
  rw [nU, if_pos (hx.1 hb)]; exact ⟨rfl, rfl, rfl, rfl⟩
 ·have hb : (decide (o.card < 0) || decide (o.card ≥ (ks.length : Int))) = false := hb
  rw [← ex] at hb
  obtain ⟨a, r, k1, k2, k3, k4, k5⟩ := hlook (fun e => by rw [hx.2 e] at hb; cases hb)
  refine ae ?_
  refine ab _ k1 (ba k2 k3 k4 ?_)
  refine ae (ae ?_)
  exact ak ⟨⟨r, by rw [← E8 k3]; rfl, k3, k4, k5⟩, rfl⟩
theorem yi (H : Heap) (O : Go.Sx.Own) : RetO PP bB [.slice none 0 0] H O (.slice none 0 0) := by
 refine cI (vs := [.slice none 0 0]) (by kernel_rfl) ⟨rfl, trivial⟩ ?_
 simp only [bz]
 exact ab (.bool true) rfl (au (fun _ => ak ⟨rfl, rfl⟩) (fun hd => by cases hd))
theorem yh (H : Heap) (O : Go.Sx.Own) : RetO PP bp [.slice none 0 0] H O (.slice none 0 0) := by
 refine cu (vs := [.slice none 0 0]) (by kernel_rfl) ⟨rfl, trivial⟩ ?_
 simp only [bo]
 exact ab (.bool true) rfl (au (fun _ => ak ⟨rfl, rfl⟩) (fun hd => by cases hd))
theorem AU {H : Heap} {O : Go.Sx.Own} {cells : List Value} (hl : cells.length = 14) (ho : Ones cells) (h11 : g cells 11 = .slice none 0 0) (h12 : g cells 12 = .slice none 0 0) :
  RetO PP oQ [.agg cells.toArray] H O (.agg cells.toArray) := by
 refine qC (vs := cells) (by rw [← E8 hl]; kernel_rfl) ho ?_
 simp only [oM]
 rw [h11, h12]
 refine an fun r0 => an fun r1 => ?_
 refine ae (ae ?_)
 refine am (yi H O) rfl ⟨rfl, trivial⟩ fun H1 l1 => ?_
 refine am (yh H1 O) rfl ⟨rfl, trivial⟩ fun H2 l2 => ?_
 refine ae (ae (ae ?_))
 refine ab (iV 0) rfl ?_
 refine cT 0 (fun _ _ O' => O' = O) rfl ?_
 rintro i H' O' hi - rfl
 refine ab _ (bJ _ _) (au (fun hd => by have := of_decide_eq_true hd; omega) (fun _ => ?_))
 refine ae (ae (ae ?_))
 refine ak ⟨?_, rfl⟩
 have e := E8 hl
 rw [h11, h12] at e
 rw [← e]; rfl
theorem EP {H : Heap} {O : Go.Sx.Own} {v : Value} {ks : List (Int × Int)} (h : KSR H O v ks) (o : Ob) : Triple PP kQ [v, .agg o.row.toArray] H O fun r H' O' => FY ks o.card r H' ∧ O' = O := by
 refine mW (vs := v :: o.row) (by kernel_rfl) ⟨h.one, fB o⟩ ?_
 simp only [kC]
 refine an fun r0 => an fun r1 => ?_
 refine ae ?_
 refine dQ (EJ h o) ?_
 rintro _ H1 ⟨cells, rfl, k1, k2, k3, k4, k5, k6⟩ l1
 refine ⟨cells, by simp [Shp.open, k1], k2, ?_⟩
 have hc := AU (H := H1) (O := O) k1 k2 k5 k6
 dsimp only
 have e : ag (G14 cells 0) = .agg cells.toArray := by rw [← E8 k1]; rfl
 rw [e]
 refine am hc (vs := cells) (by simp [Shp.open, k1]) k2 fun H2 l2 => ?_
 refine ae (ae ?_)
 rw [e]
 exact ak ⟨⟨cells, rfl, k1, k2, k3, k4, k5, k6⟩, rfl⟩
theorem sL {α : Type} {p : α → Bool} {l : List α} {i : Nat} (h : i < l.length) : (l.take (i + 1)).filter p = (l.take i).filter p ++ if p l[i] = true then [l[i]] else [] := by
 rw [List.take_add_one, List.getElem?_eq_getElem h, List.filter_append]
 congr 1
 by_cases hp : p l[i] = true <;> simp [hp]
def Ep (ks : List (Int × Int)) (p : Int) (o : Ob) : Bool := ((((o.owner != p) || o.tap) || ((nU ks o.card).1 != 1)) || decide ((nU ks o.card).2 < 0)) || decide ((nU ks o.card).2 ≥ 4)
def j8 (ks : List (Int × Int)) (b : Bd) (p : Int) (o : Ob) : Bool := !Ep ks p o && (pq b p).field.contains o.id
def lD (ks : List (Int × Int)) (o : Ob) : List Value := [iV o.id, iV (nU ks o.card).2]
def ry (ks : List (Int × Int)) (b : Bd) (p : Int) (n : Nat) : List (List Value) := ((b.objs.take n).filter (j8 ks b p)).map (lD ks)
abbrev ru : TypeId := 415
theorem vR {H : Heap} {O : Go.Sx.Own} {cv : Value} {ks : List (Int × Int)} (hk : KSR H O cv ks) {v : jK} {b : Bd} (h : BdR H O v b) (hlen : b.objs.length ≤ 1000000) {p : Int} (hp : p = 0 ∨ p = 1) :
  Triple PP gG [cv, .agg (bq v b).toArray, iV p] H O fun r _ O' => ∃ A, O'.Perm (A ++ O) ∧ OSl ru 2 r (ry ks b p b.objs.length) A ∧ (ry ks b p b.objs.length = [] → r = .slice none 0 0) := by
 refine mS (vs := cv :: (bq v b ++ [iV p])) (by kernel_rfl) ⟨hk.one, eV (bE h) ⟨rfl, trivial⟩⟩ ?_
 simp only [ky]
 refine an fun r0 => ?_
 have lo := h.objs.len
 rw [List.length_map] at lo
 refine ae ?_
 refine ab _ lo ?_
 refine pY b.objs.length (fun i x H' O' => Heap.le H H' ∧ ∃ A, O'.Perm (A ++ O) ∧ OSl ru 2 x (ry ks b p i) A ∧ (ry ks b p i = [] → x = .slice none 0 0)) ⟨Heap.le_refl _, [], List.Perm.refl _, OSl.nil _ _, fun _ => rfl⟩ ?_
 rintro i x H' O' hi - ⟨hle, A, hO, hx, hx0⟩
 refine ab _ (bJ _ _) (au (fun hb => ?_) (fun hb => ?_))
 ·have hlt : i < b.objs.length := by simpa using hb
  have hin : ∀ q ∈ O, q ∈ O' := fun q hq => hO.mem_iff.2 (List.mem_append_right _ hq)
  have hr := uX (h.le hle) hin
  have hkr := (hk.le hle).own hin
  obtain ⟨a, i1, i2, _, i3, i4⟩ := hr.objs.idx .i64 i (Ob.row b.objs[i]) (by simp [hlt])
  have hft : ry ks b p (i + 1) = ry ks b p i ++ if j8 ks b p b.objs[i] = true then [lD ks b.objs[i]] else [] := by
   unfold ry
   rw [sL hlt, List.map_append]
   congr 1
   split <;> rfl
  have hnot : j8 ks b p b.objs[i] = false → ∀ H3, Heap.le H' H3 → (Heap.le H H3 ∧ ∃ A, O'.Perm (A ++ O) ∧ OSl ru 2 x (ry ks b p (i + 1)) A ∧ (ry ks b p (i + 1) = [] → x = .slice none 0 0)) := fun hn H3 l3 => by
   rw [hft, if_neg (by rw [hn]; simp), List.append_nil]; exact ⟨Heap.le_trans hle l3, A, hO, hx, hx0⟩
  refine ab _ i1 (ba i2 i3 i4 (an fun r1 => ?_))
  refine ae (ae ?_)
  refine dQ (EP hkr b.objs[i]) ?_
  rintro _ H1 ⟨cells, rfl, k1, k2, k3, k4, _⟩ l1
  refine ⟨cells, by simp [Shp.open, k1], k2, an fun r2 => ?_⟩
  rw [k3, k4]
  refine ae (ae ?_)
  refine ab _ (sn _ _) ?_
  refine ae (ai (ai ?_))
  refine ab _ (bQ _ _) ?_
  refine ae (ai (ai ?_))
  refine ab _ (sn _ _) ?_
  refine ai ?_
  refine ab _ (bQ _ _) ?_
  refine ae (ai (ai ?_))
  refine ab _ (bJ _ _) ?_
  refine ai ?_
  refine ab _ (bQ _ _) ?_
  refine ae (ai (ai ?_))
  refine ab _ (ik _ _) ?_
  refine ai ?_
  refine ab _ (bQ _ _) (au (fun hd => ?_) (fun hd => ?_))
  ·have hn : Ep ks p b.objs[i] = true := hd
   have hs : j8 ks b p b.objs[i] = false := by rw [j8, hn]; rfl
   unfold cG
   exact ab _ (bX (by omega)) (di (by simp [Eqs, E]) hlt (hnot hs _ l1))
  ·have hn : Ep ks p b.objs[i] = false := hd
   unfold eO cG
   have hlen2 : (ry ks b p i).length ≤ 1000000 := by
    unfold ry
    rw [List.length_map]
    exact Nat.le_trans (List.length_filter_le _ _) (by rw [List.length_take]; omega)
   rcases hp with rfl | rfl
   ·refine ⟨.i64, 0, rfl, fun _ => ?_, fun e => absurd rfl e⟩
    refine ae (ae ?_)
    refine am (bN (hr.s0.field.le l1) b.objs[i].id) rfl ⟨rfl, trivial⟩ fun H4 l4 => au (fun h3 => ?_) (fun h3 => ?_)
    ·have hs : j8 ks b 0 b.objs[i] = true := by rw [j8, hn]; exact h3
     refine ae (ae ?_)
     refine an fun r3 => ?_
     rw [k4]
     refine jG (rows := ry ks b 0 i) (news := [lD ks b.objs[i]]) (O1 := A) (O2 := O) (e := ru) (size := 2) (bytes := 16) (by kernel_rfl) hO hx (fun Hf _ hf => Sl.block1 (hf _ List.mem_cons_self) rfl ⟨rfl, rfl, trivial⟩) (by simp; omega) (by simp; omega) ?_
     intro v' A' H6 l6 hA'
     refine ab _ (bX (by omega)) (di (by simp [Eqs, E]) hlt ⟨Heap.le_trans hle (Heap.le_trans l1 (Heap.le_trans l4 l6)), A', List.Perm.refl _, ?_, ?_⟩)
     ·rw [hft, if_pos hs]; exact hA'
     ·rw [hft, if_pos hs]; intro e; simp at e
    ·have hs : j8 ks b 0 b.objs[i] = false := by rw [j8, hn]; exact h3
     exact ab _ (bX (by omega)) (di (by simp [Eqs, E]) hlt (hnot hs _ (Heap.le_trans l1 l4)))
   ·refine ⟨.i64, 1, rfl, fun e => absurd e (by omega), fun _ => ⟨.i64, 1, rfl, fun _ => ?_, fun e => absurd rfl e⟩⟩
    refine ae (ae ?_)
    refine am (bN (hr.s1.field.le l1) b.objs[i].id) rfl ⟨rfl, trivial⟩ fun H4 l4 => au (fun h3 => ?_) (fun h3 => ?_)
    ·have hs : j8 ks b 1 b.objs[i] = true := by rw [j8, hn]; exact h3
     refine ae (ae ?_)
     refine an fun r3 => ?_
     rw [k4]
     refine jG (rows := ry ks b 1 i) (news := [lD ks b.objs[i]]) (O1 := A) (O2 := O) (e := ru) (size := 2) (bytes := 16) (by kernel_rfl) hO hx (fun Hf _ hf => Sl.block1 (hf _ List.mem_cons_self) rfl ⟨rfl, rfl, trivial⟩) (by simp; omega) (by simp; omega) ?_
     intro v' A' H6 l6 hA'
     refine ab _ (bX (by omega)) (di (by simp [Eqs, E]) hlt ⟨Heap.le_trans hle (Heap.le_trans l1 (Heap.le_trans l4 l6)), A', List.Perm.refl _, ?_, ?_⟩)
     ·rw [hft, if_pos hs]; exact hA'
     ·rw [hft, if_pos hs]; intro e; simp at e
    ·have hs : j8 ks b 1 b.objs[i] = false := by rw [j8, hn]; exact h3
     exact ab _ (bX (by omega)) (di (by simp [Eqs, E]) hlt (hnot hs _ (Heap.le_trans l1 l4)))
 ·have hge : b.objs.length ≤ i := by simpa using hb
  have e : ry ks b p i = ry ks b p b.objs.length := by unfold ry; rw [List.take_of_length_le hge, List.take_length]
  rw [e] at hx hx0
  exact ak ⟨A, hO, hx, hx0⟩
def dKS (cs : List At) : Option (List Ck × (Int × Int)) :=
 if (cs.all FN && Nat.beq cs.length 14) = true then
  match (cs[1]? : Option At), (cs[7]? : Option At), (cs[11]? : Option At), (cs[12]? : Option At) with
  | some (At.k (.int .i64 k)), some (At.k (.int .i64 t)), some (At.k (.slice none 0 0)), some (At.k (.slice none 0 0)) => some ([], (k, t))
  | _, _, _, _ => none
 else none
theorem FQ : oR 14 dKS fun r k => g r 1 = iV k.1 ∧ g r 7 = iV k.2 ∧ g r 11 = .slice none 0 0 ∧ g r 12 = .slice none 0 0 := by
 intro cs k a h hk
 unfold dKS at h
 split at h
 ·rename_i hc
  rw [Bool.and_eq_true] at hc
  obtain ⟨h1, h2⟩ := q4 hc.1
  split at h
  ·rename_i e1 e2 e3 e4
   simp only [Option.some.injEq, Prod.mk.injEq] at h
   obtain ⟨rfl, rfl⟩ := h
   refine ⟨Nat.eq_of_beq_eq_true hc.2, h1, ⟨?_, ?_, ?_, ?_⟩, h2⟩
   ·simp [g, List.getD_eq_getElem?_getD, List.getElem?_map, e1, At.den]
   ·simp [g, List.getD_eq_getElem?_getD, List.getElem?_map, e2, At.den]
   ·simp [g, List.getD_eq_getElem?_getD, List.getElem?_map, e3, At.den]
   ·simp [g, List.getD_eq_getElem?_getD, List.getElem?_map, e4, At.den]
  ·cases h
 ·cases h
def F5 (ks : List (Int × Int)) (b : Bd) (p : Int) : List Ob := b.objs.filter (j8 ks b p)
def dR (ks : List (Int × Int)) : List Ob → List At
 | [] => []
 | o :: r => .k (.int .i64 o.id) :: .k (.int .i64 (nU ks o.card).2) :: dR ks r
theorem lE (ks : List (Int × Int)) : ∀ l : List Ob, (dR ks l).map At.den = (l.map (lD ks)).flatten
 | [] => rfl
 | o :: r => by simp only [dR, List.map_cons, List.flatten_cons, lE ks r, At.den, lD, List.cons_append, List.nil_append]
theorem mO (ks : List (Int × Int)) : ∀ l : List Ob, ∀ a ∈ dR ks l, a.ok
 | [], a, h => by cases h
 | o :: r, a, h => by
  simp only [dR, List.mem_cons] at h
  rcases h with rfl | rfl | h
  ·trivial
  ·trivial
  ·exact mO ks r a h
def IC (ks : List (Int × Int)) (mem : List (Nat × Option Bx)) (next : Nat) (h : HS) : List Ob → G (SV × CS)
 | [] => .done (.s (.at (.k (.slice none 0 0))), cC mem next h)
 | x :: l => .box fun r => .box fun c => .done (.s (.at (.sl next r 0 (l.length + 1) (c + (l.length + 1)))),
   cC ((next, some ⟨r, ru, wide (dR ks (x :: l)) c 2⟩) :: mem) (next + 1) { h with gr := (next, (l.length + 1) * 2, c) :: h.gr })
def wu : SumG := fun f args mem next h =>
 if Nat.beq f gG = true then
  match args with
  | [.at cv, .agg l, .at (.k (.int .i64 p))] => if (p == 0 || p == 1) = true then
    match dBd mem l with
    | some (k, _, b) => match slD mem 14 dKS cv with
     | some (k2, ks) => if Nat.ble b.objs.length 1000000 = true then some (G.mchk (k ++ k2) (IC ks mem next h (F5 ks b p))) else none
     | none => none
    | none => none
   else none
  | _ => none
 else none
theorem wt {ok : FuncId → Bool} {H : Heap} : SumOkG PP ok H wu := by
 intro f args mem next h gg F w K _ hs hden hargs hmem
 unfold wu at hs
 split at hs
 ·rename_i hf
  have hf := Nat.eq_of_beq_eq_true hf
  subst hf
  split at hs
  ·rename_i cv l p
   split at hs
   ·rename_i hp
    split at hs
    ·rename_i k v b hd
     split at hs
     ·rename_i k2 ks hd2
      split at hs
      ·rename_i hlen
       simp only [Option.some.injEq] at hs
       subst hs
       obtain ⟨hck, hd3⟩ := G.den_mchk hden
       clear hden
       rw [AllCk.append] at hck
       have hp : p = 0 ∨ p = 1 := by simpa using hp
       obtain ⟨L, O, hB, hok, hM, hmod, hfr⟩ := hmem
       obtain ⟨h1, h2⟩ := sP hd hck.1 hB H
       obtain ⟨_, rows, r1, r2, r3⟩ := rK FQ hd2 hck.2 hB H
       have hT := vR (O := L) ⟨rows, r1, r2, r3⟩ h2 (Nat.le_of_ble_eq_true hlen) hp w (O ++ F) hmod
       have e : (([S1.at cv, S1.agg l, S1.at (.k (.int .i64 p))] : List S1).map S1.den).toArray = [cv.den, Value.agg (bq v b).toArray, iV p].toArray := by simp [S1.den, h1, At.den]
       rw [e]
       refine hT.mono ?_
       rintro e' w' ⟨u, H', O', he, ⟨A, hA, hO, h0⟩, hle, hm'⟩
       have hrows : ry ks b p b.objs.length = (F5 ks b p).map (lD ks) := by unfold ry F5; rw [List.take_length]
       rw [hrows] at hO h0
       have hm3 : Models w' H (A ++ (L ++ (O ++ F))) := by
        have := (hm'.less hle).perm (hA.append_right _)
        simpa using this
       have hbx : Boxes (fun k => (aO mem k).getD none) L := hB
       generalize F5 ks b p = sl at hO h0 hd3
       cases sl with
       | nil =>
        have hv := h0 rfl
        subst hv
        have hA0 : A = [] := by
         rcases hO with ⟨_, _, rfl⟩ | ⟨r', cs, cap, hx, _⟩
         ·rfl
         ·cases hx
        subst hA0
        exact ⟨_, .s (.at (.k (.slice none 0 0))), cC mem next h, he, rfl, jZ _, hd3, L, O, hbx, hok, hM, by simpa using hm3, hfr⟩
       | cons x l =>
        rcases hO with ⟨_, hx, _⟩ | ⟨r', cs, cap, hv, hA', hcl, hlc, hcap, hrl, hro, htk⟩
        ·simp at hx
        ·have hil : ((x :: l).map (lD ks)).length = l.length + 1 := by simp
         rw [hil] at hlc htk hv
         obtain ⟨c, rfl⟩ : ∃ c, cap = c + (l.length + 1) := ⟨cap - (l.length + 1), by omega⟩
         subst hv; subst hA'
         have hcs : cs = (dR ks (x :: l)).map At.den ++ cs.drop ((l.length + 1) * 2) := by
          have h1 := List.take_append_drop ((l.length + 1) * 2) cs
          rw [htk, ← lE] at h1
          exact h1.symm
         have hrel' : CellsRel (wide (dR ks (x :: l)) c 2) cs := by
          rw [hcs]
          exact iJ (CellsRel.map _) (by rw [List.length_drop, hcl]; omega)
         have hput := hbx.put (n := next) (b := ⟨r', ru, wide (dR ks (x :: l)) c 2⟩) (hfr next (Nat.le_refl _)) hrel'
         refine ⟨_, .s (.at (.sl next r' 0 (l.length + 1) (c + (l.length + 1)))), cC ((next, some ⟨r', ru, wide (dR ks (x :: l)) c 2⟩) :: mem) (next + 1) { h with gr := (next, (l.length + 1) * 2, c) :: h.gr }, he, rfl, cM trivial, hd3 r' c, (r', .cells cs.toArray ru (0, 0)) :: L, O, ?_, ?_, hM, by simpa using hm3, ?_⟩
         ·refine (congrArg (fun m => Boxes m _) (funext fun k => ?_)).mp hput
          simp only [cC, aO]
          by_cases e : k = next <;> simp [e]
         ·intro m b' hb' a' ha'
          simp only [cC] at hb'
          rw [aO] at hb'
          by_cases e : m = next
          ·rw [if_pos e] at hb'
           simp only [Option.getD_some, Option.some.injEq] at hb'
           subst hb'
           simp only [wide, List.mem_append] at ha'
           rcases ha' with ha' | ha'
           ·exact mO ks _ a' ha'
           ·rw [List.eq_of_mem_replicate ha']; trivial
          ·rw [if_neg e] at hb'; exact hok m b' hb' a' ha'
         ·intro m hm
          simp only [cC] at hm ⊢
          rw [aO, if_neg (by omega)]
          exact hfr m (show next ≤ m by omega)
      ·cases hs
     ·cases hs
    ·cases hs
   ·cases hs
  ·cases hs
 ·cases hs
def aD : SumG := sumN.or (sumSt.toG.or (sumLo.toG.or (sumFi.toG.or (sumIx.toG.or wu))))
theorem ah {H : Heap} (hg : GlobOk dp H) : SumOkG PP cfgN.ok H aD :=
 (BE hg).or ((SumOk.toG yJ).or ((SumOk.toG yU).or ((SumOk.toG yX).or ((SumOk.toG yW).or wt))))
def az : List At := [.k (.string ⟨#[119, 101, 108, 108]⟩), q 1, q 0, q 0, q 0, q 0, q 0, q 1, q 0, q 0, q 0, zs, zs, q 1, .k (.string ⟨#[105, 109, 112]⟩), q 2, q 0, q 0, q 0, q 0, q 1, q 0, q 1, q 1, q 1, zs, zs, q 1]
def c2 : List At := [q 0, q 0, q 0, q 0, q 0, q 0, q 0, q 0, q 0, q 0, q 0, q 0, q 0, q 0, q 0, q 0, q 1, q 1, q 1, q 7]
def c3 : List At := [.k (.int .u64 0), .k (.int .u64 0), .k (.int .u64 0), .k (.int .u64 0), .k (.int .u64 0), .k (.int .u64 0), .k (.int .u64 0), .k (.int .u64 0), .k (.int .u64 0), .k (.int .u64 0), .k (.int .u64 0), .k (.int .u64 0), .k (.int .u64 0), .k (.int .u64 0), .k (.int .u64 0), .k (.int .u64 0), .k (.int .u64 0), .k (.int .u64 0), .k (.int .u64 0), .k (.int .u64 0), .k (.int .u64 0), .k (.int .u64 0), .k (.int .u64 0), .k (.int .u64 0), .k (.int .u64 0), .k (.int .u64 0), .k (.int .u64 0), .k (.int .u64 0), .k (.int .u64 0), .k (.int .u64 0), .k (.int .u64 0), .k (.int .u64 0), .k (.int .u64 0), .k (.int .u64 0), .k (.int .u64 0), .k (.int .u64 0), .k (.int .u64 0), .k (.int .u64 0), .k (.int .u64 0), .k (.int .u64 0), .k (.int .u64 0), .k (.int .u64 0), .k (.int .u64 0), .k (.int .u64 0), .k (.int .u64 0), .k (.int .u64 0), .k (.int .u64 0), .k (.int .u64 0), .k (.int .u64 0), .k (.int .u64 0), .k (.int .u64 0), .k (.int .u64 0), .k (.int .u64 0), .k (.int .u64 0), .k (.int .u64 0), .k (.int .u64 0), .k (.int .u64 0), .k (.int .u64 0), .k (.int .u64 0), .k (.int .u64 0), .k (.int .u64 0), .k (.int .u64 0), .k (.int .u64 0), .k (.int .u64 0), .k (.int .u64 0), .k (.int .u64 0), .k (.int .u64 0), .k (.int .u64 0), .k (.int .u64 0), .k (.int .u64 0), .k (.int .u64 0), .k (.int .u64 0), .k (.int .u64 0), .k (.int .u64 0), .k (.int .u64 0), .k (.int .u64 0), .k (.int .u64 0), .k (.int .u64 0), .k (.int .u64 0), .k (.int .u64 0), .k (.int .u64 0), .k (.int .u64 0), .k (.int .u64 0), .k (.int .u64 0), .k (.int .u64 0), .k (.int .u64 0), .k (.int .u64 0), .k (.int .u64 0), .k (.int .u64 0), .k (.int .u64 0), .k (.int .u64 0), .k (.int .u64 0), .k (.int .u64 0), .k (.int .u64 0), .k (.int .u64 0), .k (.int .u64 0), .k (.int .u64 0), .k (.int .u64 0), .k (.int .u64 0), .k (.int .u64 0), .k (.int .u64 0), .k (.int .u64 0), .k (.int .u64 0), .k (.int .u64 0), .k (.int .u64 0), .k (.int .u64 0), .k (.int .u64 0), .k (.int .u64 0), .k (.int .u64 0), .k (.int .u64 0), .k (.int .u64 0), .k (.int .u64 0), .k (.int .u64 0), .k (.int .u64 0), .k (.int .u64 0), .k (.int .u64 0), .k (.int .u64 0), .k (.int .u64 0), .k (.int .u64 0), .k (.int .u64 0), .k (.int .u64 0), .k (.int .u64 0), .k (.int .u64 0), .k (.int .u64 0), .k (.int .u64 0), .k (.int .u64 0), .k (.int .u64 0), .k (.int .u64 0), .k (.int .u64 0), .k (.int .u64 0), .k (.int .u64 0), .k (.int .u64 0), .k (.int .u64 0), .k (.int .u64 0), .k (.int .u64 0), .k (.int .u64 0), .k (.int .u64 0), .k (.int .u64 0), .k (.int .u64 0), .k (.int .u64 0), .k (.int .u64 0), .k (.int .u64 0), .k (.int .u64 0), .k (.int .u64 0), .k (.int .u64 0), .k (.int .u64 0), .k (.int .u64 0), .k (.int .u64 0), .k (.int .u64 0), .k (.int .u64 0), .k (.int .u64 0), .k (.int .u64 0), .k (.int .u64 0), .k (.int .u64 0), .k (.int .u64 0), .k (.int .u64 0), .k (.int .u64 0), .k (.int .u64 0), .k (.int .u64 0), .k (.int .u64 0), .k (.int .u64 0), .k (.int .u64 0), .k (.int .u64 0), .k (.int .u64 0), .k (.int .u64 0), .k (.int .u64 0), .k (.int .u64 0), .k (.int .u64 0), .k (.int .u64 0), .k (.int .u64 0), .k (.int .u64 0), .k (.int .u64 0), .k (.int .u64 0), .k (.int .u64 0), .k (.int .u64 0), .k (.int .u64 0), .k (.int .u64 0), .k (.int .u64 0), .k (.int .u64 0), .k (.int .u64 0), .k (.int .u64 0), .k (.int .u64 0), .k (.int .u64 0), .k (.int .u64 0), .k (.int .u64 0), .k (.int .u64 0), .k (.int .u64 0), .k (.int .u64 0), .k (.int .u64 0), .k (.int .u64 0), .k (.int .u64 0), .k (.int .u64 0), .k (.int .u64 0), .k (.int .u64 0), .k (.int .u64 0), .k (.int .u64 0), .k (.int .u64 0), .k (.int .u64 0), .k (.int .u64 0), .k (.int .u64 0), .k (.int .u64 0), .k (.int .u64 0), .k (.int .u64 0), .k (.int .u64 0), .k (.int .u64 0), .k (.int .u64 0), .k (.int .u64 0), .k (.int .u64 0), .k (.int .u64 0), .k (.int .u64 0), .k (.int .u64 0), .k (.int .u64 0), .k (.int .u64 0), .k (.int .u64 0), .k (.int .u64 0), .k (.int .u64 0), .k (.int .u64 0), .k (.int .u64 0), .k (.int .u64 0), .k (.int .u64 0), .k (.int .u64 0), .k (.int .u64 0), .k (.int .u64 0), .k (.int .u64 0), .k (.int .u64 0), .k (.int .u64 0), .k (.int .u64 0), .k (.int .u64 0), .k (.int .u64 0), .k (.int .u64 0), .k (.int .u64 0), .k (.int .u64 0), .k (.int .u64 0), .k (.int .u64 0), .k (.int .u64 0), .k (.int .u64 0), .k (.int .u64 0), .k (.int .u64 0), .k (.int .u64 0), .k (.int .u64 0), .k (.int .u64 0), .k (.int .u64 0), .k (.int .u64 0), .k (.int .u64 0), .k (.int .u64 0), .k (.int .u64 0), .k (.int .u64 0), .k (.int .u64 0), .k (.int .u64 0), .k (.int .u64 0), .k (.int .u64 0), .k (.int .u64 0), .k (.int .u64 0), .k (.int .u64 0), .k (.int .u64 0), .k (.int .u64 0), .k (.int .u64 0), .k (.int .u64 0), .k (.int .u64 0), .k (.int .u64 0), .k (.int .u64 0), .k (.int .u64 0), .k (.int .u64 0), .k (.int .u64 0), .k (.int .u64 0), .k (.int .u64 0), .k (.int .u64 0), .k (.int .u64 0), .k (.int .u64 0), .k (.int .u64 0), .k (.int .u64 0), .k (.int .u64 0), .k (.int .u64 0), .k (.int .u64 0), .k (.int .u64 0), .k (.int .u64 0), .k (.int .u64 0), .k (.int .u64 0), .k (.int .u64 0), .k (.int .u64 0), .k (.int .u64 0), .k (.int .u64 0), .k (.int .u64 0), .k (.int .u64 0), .k (.int .u64 0), .k (.int .u64 0), .k (.int .u64 0), .k (.int .u64 0), .k (.int .u64 0), .k (.int .u64 0), .k (.int .u64 0), .k (.int .u64 0), .k (.int .u64 0), .k (.int .u64 0), .k (.int .u64 0), .k (.int .u64 0), .k (.int .u64 0), .k (.int .u64 0), .k (.int .u64 0), .k (.int .u64 0), .k (.int .u64 0), .k (.int .u64 0), .k (.int .u64 0), .k (.int .u64 0), .k (.int .u64 0), .k (.int .u64 0), .k (.int .u64 0), .k (.int .u64 0), .k (.int .u64 0), .k (.int .u64 0), .k (.int .u64 0), .k (.int .u64 0), .k (.int .u64 0), .k (.int .u64 0), .k (.int .u64 0), .k (.int .u64 0), .k (.int .u64 0), .k (.int .u64 0), .k (.int .u64 0), .k (.int .u64 0), .k (.int .u64 0), .k (.int .u64 0), .k (.int .u64 0), .k (.int .u64 0), .k (.int .u64 0), .k (.int .u64 0), .k (.int .u64 0), .k (.int .u64 0), .k (.int .u64 0), .k (.int .u64 0), .k (.int .u64 0), .k (.int .u64 0), .k (.int .u64 0), .k (.int .u64 0), .k (.int .u64 0), .k (.int .u64 0), .k (.int .u64 0), .k (.int .u64 0), .k (.int .u64 0), .k (.int .u64 0), .k (.int .u64 0), .k (.int .u64 0), .k (.int .u64 0), .k (.int .u64 0), .k (.int .u64 0), .k (.int .u64 0), .k (.int .u64 0), .k (.int .u64 0), .k (.int .u64 0), .k (.int .u64 0), .k (.int .u64 0), .k (.int .u64 0), .k (.int .u64 0), .k (.int .u64 0), .k (.int .u64 0), .k (.int .u64 0), .k (.int .u64 0), .k (.int .u64 0), .k (.int .u64 0), .k (.int .u64 0), .k (.int .u64 0), .k (.int .u64 0), .k (.int .u64 0), .k (.int .u64 0), .k (.int .u64 0), .k (.int .u64 0), .k (.int .u64 0), .k (.int .u64 0), .k (.int .u64 0), .k (.int .u64 0), .k (.int .u64 0), .k (.int .u64 0), .k (.int .u64 0), .k (.int .u64 0), .k (.int .u64 0), .k (.int .u64 0), .k (.int .u64 0), .k (.int .u64 0), .k (.int .u64 0), .k (.int .u64 0), .k (.int .u64 0), .k (.int .u64 0), .k (.int .u64 0), .k (.int .u64 0), .k (.int .u64 0), .k (.int .u64 0), .k (.int .u64 0), .k (.int .u64 0), .k (.int .u64 0), .k (.int .u64 0), .k (.int .u64 0), .k (.int .u64 0), .k (.int .u64 0), .k (.int .u64 0), .k (.int .u64 0), .k (.int .u64 0), .k (.int .u64 0), .k (.int .u64 0), .k (.int .u64 0), .k (.int .u64 0)]
def c4 : List At := [q 0, q 0, q 0, q 0, q 0, q 0, q 0, q 0, q 0, q 0, q 0, q 0, q 0, q 0, q 0, q 0, q 1, q 1, q 1, q 1]
def c5 : List At := [q 1, q 0, q 0, q 0, q 0, q 0, q 0, q 0, q 0, bf, bf, bf, q 2, q 0, q 0, q 0, q 0, q 0, q 0, q 0, q 0, bf, bf, bf, q 3, q 0, q 0, q 0, q 0, q 0, q 0, q 0, q 0, bf, bf, bf, q 4, q 0, q 0, q 0, q 0, q 0, q 0, q 0, q 0, bf, bf, bf, q 5, q 0, q 0, q 0, q 0, q 0, q 0, q 0, q 0, bf, bf, bf, q 6, q 0, q 0, q 0, q 0, q 0, q 0, q 0, q 0, bf, bf, bf, q 7, q 0, q 0, q 0, q 0, q 0, q 0, q 0, q 0, bf, bf, bf, q 8, q 0, q 0, q 0, q 0, q 0, q 0, q 0, q 0, bf, bf, bf, q 9, q 0, q 0, q 0, q 0, q 0, q 0, q 0, q 0, bf, bf, bf, q 10, q 0, q 0, q 0, q 0, q 0, q 0, q 0, q 0, bf, bf, bf, q 11, q 0, q 0, q 0, q 0, q 0, q 0, q 0, q 0, bf, bf, bf, q 12, q 0, q 0, q 0, q 0, q 0, q 0, q 0, q 0, bf, bf, bf, q 13, q 0, q 0, q 0, q 0, q 0, q 0, q 0, q 0, bf, bf, bf, q 14, q 0, q 0, q 0, q 0, q 0, q 0, q 0, q 0, bf, bf, bf, q 15, q 0, q 0, q 0, q 0, q 0, q 0, q 0, q 0, bf, bf, bf, q 16, q 0, q 0, q 0, q 0, q 0, q 0, q 0, q 0, bf, bf, bf, q 17, q 1, q 0, q 0, q 0, q 0, q 0, q 0, q 0, bf, bf, bf, q 18, q 1, q 0, q 0, q 0, q 0, q 0, q 0, q 0, bf, bf, bf, q 19, q 1, q 0, q 0, q 0, q 0, q 0, q 0, q 0, bf, bf, bf, q 20, q 1, q 0, q 0, q 0, q 0, q 0, q 0, q 0, bf, bf, bf, q 21, q 0, q 1, q 0, q 0, q 0, q 0, q 0, q 0, bf, bf, bf, q 22, q 0, q 1, q 0, q 0, q 0, q 0, q 0, q 0, bf, bf, bf, q 23, q 0, q 1, q 0, q 0, q 0, q 0, q 0, q 0, bf, bf, bf, q 24, q 0, q 1, q 0, q 0, q 0, q 0, q 0, q 0, bf, bf, bf, q 25, q 0, q 1, q 0, q 0, q 0, q 0, q 0, q 0, bf, bf, bf, q 26, q 0, q 1, q 0, q 0, q 0, q 0, q 0, q 0, bf, bf, bf, q 27, q 0, q 1, q 0, q 0, q 0, q 0, q 0, q 0, bf, bf, bf, q 28, q 0, q 1, q 0, q 0, q 0, q 0, q 0, q 0, bf, bf, bf, q 29, q 0, q 1, q 0, q 0, q 0, q 0, q 0, q 0, bf, bf, bf, q 30, q 0, q 1, q 0, q 0, q 0, q 0, q 0, q 0, bf, bf, bf, q 31, q 0, q 1, q 0, q 0, q 0, q 0, q 0, q 0, bf, bf, bf, q 32, q 0, q 1, q 0, q 0, q 0, q 0, q 0, q 0, bf, bf, bf, q 33, q 0, q 1, q 0, q 0, q 0, q 0, q 0, q 0, bf, bf, bf, q 34, q 0, q 1, q 0, q 0, q 0, q 0, q 0, q 0, bf, bf, bf, q 35, q 0, q 1, q 0, q 0, q 0, q 0, q 0, q 0, bf, bf, bf, q 36, q 0, q 1, q 0, q 0, q 0, q 0, q 0, q 0, bf, bf, bf, q 37, q 1, q 1, q 0, q 0, q 0, q 0, q 0, q 0, bf, bf, bf, q 38, q 1, q 1, q 0, q 0, q 0, q 0, q 0, q 0, bf, bf, bf, q 39, q 1, q 1, q 0, q 0, q 0, q 0, q 0, q 0, bf, bf, bf, q 40, q 1, q 1, q 0, q 0, q 0, q 0, q 0, q 0, bf, bf, bf]
def c6 : List At := [q 2, q 3, q 4, q 5, q 6, q 7, q 8, q 9, q 10, q 11, q 12, q 13, q 14]
def c7 : List At := [q 22, q 23, q 24, q 25, q 26, q 27, q 28, q 29, q 30, q 31, q 32, q 33, q 34, q 35, q 36, q 37, q 38, q 39, q 40, q 21]
def c8 : List At := [q 22, q 23, q 24, q 25, q 26, q 27, q 28, q 29, q 30, q 31, q 32, q 33, q 34]
def c9 : List At := [q 1, q 0, q 0, q 4, q 1, q 0, q 4, q 15, q 0, q 4, q 16, q 0]
def c10 : List At := [q 1, q 0, q 0, q 0, q 0, q 0, q 0, q 0, q 0, bf, bt, bf, q 2, q 0, q 0, q 0, q 0, q 0, q 0, q 0, q 0, bf, bf, bf, q 3, q 0, q 0, q 0, q 0, q 0, q 0, q 0, q 0, bf, bf, bf, q 4, q 0, q 0, q 0, q 0, q 0, q 0, q 0, q 0, bf, bf, bf, q 5, q 0, q 0, q 0, q 0, q 0, q 0, q 0, q 0, bf, bf, bf, q 6, q 0, q 0, q 0, q 0, q 0, q 0, q 0, q 0, bf, bf, bf, q 7, q 0, q 0, q 0, q 0, q 0, q 0, q 0, q 0, bf, bf, bf, q 8, q 0, q 0, q 0, q 0, q 0, q 0, q 0, q 0, bf, bf, bf, q 9, q 0, q 0, q 0, q 0, q 0, q 0, q 0, q 0, bf, bf, bf, q 10, q 0, q 0, q 0, q 0, q 0, q 0, q 0, q 0, bf, bf, bf, q 11, q 0, q 0, q 0, q 0, q 0, q 0, q 0, q 0, bf, bf, bf, q 12, q 0, q 0, q 0, q 0, q 0, q 0, q 0, q 0, bf, bf, bf, q 13, q 0, q 0, q 0, q 0, q 0, q 0, q 0, q 0, bf, bf, bf, q 14, q 0, q 0, q 0, q 0, q 0, q 0, q 0, q 0, bf, bf, bf, q 15, q 0, q 0, q 0, q 0, q 0, q 0, q 0, q 0, bf, bf, bf, q 16, q 0, q 0, q 0, q 0, q 0, q 0, q 0, q 0, bf, bf, bf, q 17, q 1, q 0, q 0, q 0, q 0, q 0, q 0, q 0, bf, bf, bf, q 18, q 1, q 0, q 0, q 0, q 0, q 0, q 0, q 0, bf, bf, bf, q 19, q 1, q 0, q 0, q 0, q 0, q 0, q 0, q 0, bf, bf, bf, q 20, q 1, q 0, q 0, q 0, q 0, q 0, q 0, q 0, bf, bf, bf, q 21, q 0, q 1, q 0, q 0, q 0, q 0, q 0, q 0, bf, bf, bf, q 22, q 0, q 1, q 0, q 0, q 0, q 0, q 0, q 0, bf, bf, bf, q 23, q 0, q 1, q 0, q 0, q 0, q 0, q 0, q 0, bf, bf, bf, q 24, q 0, q 1, q 0, q 0, q 0, q 0, q 0, q 0, bf, bf, bf, q 25, q 0, q 1, q 0, q 0, q 0, q 0, q 0, q 0, bf, bf, bf, q 26, q 0, q 1, q 0, q 0, q 0, q 0, q 0, q 0, bf, bf, bf, q 27, q 0, q 1, q 0, q 0, q 0, q 0, q 0, q 0, bf, bf, bf, q 28, q 0, q 1, q 0, q 0, q 0, q 0, q 0, q 0, bf, bf, bf, q 29, q 0, q 1, q 0, q 0, q 0, q 0, q 0, q 0, bf, bf, bf, q 30, q 0, q 1, q 0, q 0, q 0, q 0, q 0, q 0, bf, bf, bf, q 31, q 0, q 1, q 0, q 0, q 0, q 0, q 0, q 0, bf, bf, bf, q 32, q 0, q 1, q 0, q 0, q 0, q 0, q 0, q 0, bf, bf, bf, q 33, q 0, q 1, q 0, q 0, q 0, q 0, q 0, q 0, bf, bf, bf, q 34, q 0, q 1, q 0, q 0, q 0, q 0, q 0, q 0, bf, bf, bf, q 35, q 0, q 1, q 0, q 0, q 0, q 0, q 0, q 0, bf, bf, bf, q 36, q 0, q 1, q 0, q 0, q 0, q 0, q 0, q 0, bf, bf, bf, q 37, q 1, q 1, q 0, q 0, q 0, q 0, q 0, q 0, bf, bf, bf, q 38, q 1, q 1, q 0, q 0, q 0, q 0, q 0, q 0, bf, bf, bf, q 39, q 1, q 1, q 0, q 0, q 0, q 0, q 0, q 0, bf, bf, bf, q 40, q 1, q 1, q 0, q 0, q 0, q 0, q 0, q 0, bf, bf, bf]
def c11 : List At := [q 1, q 0, q 0, q 4, q 17, q 0, q 4, q 18, q 0, q 4, q 19, q 0, q 4, q 20, q 0]
def c12 : List At := [q 1, q 0, q 0, q 0, q 0, q 0, q 0, q 0, q 0, bt, bt, bf, q 2, q 0, q 0, q 0, q 0, q 0, q 0, q 0, q 0, bf, bf, bf, q 3, q 0, q 0, q 0, q 0, q 0, q 0, q 0, q 0, bf, bf, bf, q 4, q 0, q 0, q 0, q 0, q 0, q 0, q 0, q 0, bf, bf, bf, q 5, q 0, q 0, q 0, q 0, q 0, q 0, q 0, q 0, bf, bf, bf, q 6, q 0, q 0, q 0, q 0, q 0, q 0, q 0, q 0, bf, bf, bf, q 7, q 0, q 0, q 0, q 0, q 0, q 0, q 0, q 0, bf, bf, bf, q 8, q 0, q 0, q 0, q 0, q 0, q 0, q 0, q 0, bf, bf, bf, q 9, q 0, q 0, q 0, q 0, q 0, q 0, q 0, q 0, bf, bf, bf, q 10, q 0, q 0, q 0, q 0, q 0, q 0, q 0, q 0, bf, bf, bf, q 11, q 0, q 0, q 0, q 0, q 0, q 0, q 0, q 0, bf, bf, bf, q 12, q 0, q 0, q 0, q 0, q 0, q 0, q 0, q 0, bf, bf, bf, q 13, q 0, q 0, q 0, q 0, q 0, q 0, q 0, q 0, bf, bf, bf, q 14, q 0, q 0, q 0, q 0, q 0, q 0, q 0, q 0, bf, bf, bf, q 15, q 0, q 0, q 0, q 0, q 0, q 0, q 0, q 0, bf, bf, bf, q 16, q 0, q 0, q 0, q 0, q 0, q 0, q 0, q 0, bf, bf, bf, q 17, q 1, q 0, q 0, q 0, q 0, q 0, q 0, q 0, bf, bf, bf, q 18, q 1, q 0, q 0, q 0, q 0, q 0, q 0, q 0, bf, bf, bf, q 19, q 1, q 0, q 0, q 0, q 0, q 0, q 0, q 0, bf, bf, bf, q 20, q 1, q 0, q 0, q 0, q 0, q 0, q 0, q 0, bf, bf, bf, q 21, q 0, q 1, q 0, q 0, q 0, q 0, q 0, q 0, bf, bf, bf, q 22, q 0, q 1, q 0, q 0, q 0, q 0, q 0, q 0, bf, bf, bf, q 23, q 0, q 1, q 0, q 0, q 0, q 0, q 0, q 0, bf, bf, bf, q 24, q 0, q 1, q 0, q 0, q 0, q 0, q 0, q 0, bf, bf, bf, q 25, q 0, q 1, q 0, q 0, q 0, q 0, q 0, q 0, bf, bf, bf, q 26, q 0, q 1, q 0, q 0, q 0, q 0, q 0, q 0, bf, bf, bf, q 27, q 0, q 1, q 0, q 0, q 0, q 0, q 0, q 0, bf, bf, bf, q 28, q 0, q 1, q 0, q 0, q 0, q 0, q 0, q 0, bf, bf, bf, q 29, q 0, q 1, q 0, q 0, q 0, q 0, q 0, q 0, bf, bf, bf, q 30, q 0, q 1, q 0, q 0, q 0, q 0, q 0, q 0, bf, bf, bf, q 31, q 0, q 1, q 0, q 0, q 0, q 0, q 0, q 0, bf, bf, bf, q 32, q 0, q 1, q 0, q 0, q 0, q 0, q 0, q 0, bf, bf, bf, q 33, q 0, q 1, q 0, q 0, q 0, q 0, q 0, q 0, bf, bf, bf, q 34, q 0, q 1, q 0, q 0, q 0, q 0, q 0, q 0, bf, bf, bf, q 35, q 0, q 1, q 0, q 0, q 0, q 0, q 0, q 0, bf, bf, bf, q 36, q 0, q 1, q 0, q 0, q 0, q 0, q 0, q 0, bf, bf, bf, q 37, q 1, q 1, q 0, q 0, q 0, q 0, q 0, q 0, bf, bf, bf, q 38, q 1, q 1, q 0, q 0, q 0, q 0, q 0, q 0, bf, bf, bf, q 39, q 1, q 1, q 0, q 0, q 0, q 0, q 0, q 0, bf, bf, bf, q 40, q 1, q 1, q 0, q 0, q 0, q 0, q 0, q 0, bf, bf, bf]
def c13 : List At := [q 1, q 0, q 0, q 0, q 0, q 0, q 0, q 0, q 0, bt, bt, bf, q 2, q 0, q 0, q 0, q 0, q 0, q 0, q 0, q 0, bf, bf, bf, q 3, q 0, q 0, q 0, q 0, q 0, q 0, q 0, q 0, bf, bf, bf, q 4, q 0, q 0, q 0, q 0, q 0, q 0, q 0, q 0, bf, bf, bf, q 5, q 0, q 0, q 0, q 0, q 0, q 0, q 0, q 0, bf, bf, bf, q 6, q 0, q 0, q 0, q 0, q 0, q 0, q 0, q 0, bf, bf, bf, q 7, q 0, q 0, q 0, q 0, q 0, q 0, q 0, q 0, bf, bf, bf, q 8, q 0, q 0, q 0, q 0, q 0, q 0, q 0, q 0, bf, bf, bf, q 9, q 0, q 0, q 0, q 0, q 0, q 0, q 0, q 0, bf, bf, bf, q 10, q 0, q 0, q 0, q 0, q 0, q 0, q 0, q 0, bf, bf, bf, q 11, q 0, q 0, q 0, q 0, q 0, q 0, q 0, q 0, bf, bf, bf, q 12, q 0, q 0, q 0, q 0, q 0, q 0, q 0, q 0, bf, bf, bf, q 13, q 0, q 0, q 0, q 0, q 0, q 0, q 0, q 0, bf, bf, bf, q 14, q 0, q 0, q 0, q 0, q 0, q 0, q 0, q 0, bf, bf, bf, q 15, q 0, q 0, q 0, q 0, q 0, q 0, q 0, q 0, bf, bf, bf, q 16, q 0, q 0, q 0, q 0, q 0, q 0, q 0, q 0, bf, bf, bf, q 17, q 1, q 0, q 0, q 0, q 0, q 0, q 0, q 0, bf, bt, bf, q 18, q 1, q 0, q 0, q 0, q 0, q 0, q 0, q 0, bf, bf, bf, q 19, q 1, q 0, q 0, q 0, q 0, q 0, q 0, q 0, bf, bf, bf, q 20, q 1, q 0, q 0, q 0, q 0, q 0, q 0, q 0, bf, bf, bf, q 21, q 0, q 1, q 0, q 0, q 0, q 0, q 0, q 0, bf, bf, bf, q 22, q 0, q 1, q 0, q 0, q 0, q 0, q 0, q 0, bf, bf, bf, q 23, q 0, q 1, q 0, q 0, q 0, q 0, q 0, q 0, bf, bf, bf, q 24, q 0, q 1, q 0, q 0, q 0, q 0, q 0, q 0, bf, bf, bf, q 25, q 0, q 1, q 0, q 0, q 0, q 0, q 0, q 0, bf, bf, bf, q 26, q 0, q 1, q 0, q 0, q 0, q 0, q 0, q 0, bf, bf, bf, q 27, q 0, q 1, q 0, q 0, q 0, q 0, q 0, q 0, bf, bf, bf, q 28, q 0, q 1, q 0, q 0, q 0, q 0, q 0, q 0, bf, bf, bf, q 29, q 0, q 1, q 0, q 0, q 0, q 0, q 0, q 0, bf, bf, bf, q 30, q 0, q 1, q 0, q 0, q 0, q 0, q 0, q 0, bf, bf, bf, q 31, q 0, q 1, q 0, q 0, q 0, q 0, q 0, q 0, bf, bf, bf, q 32, q 0, q 1, q 0, q 0, q 0, q 0, q 0, q 0, bf, bf, bf, q 33, q 0, q 1, q 0, q 0, q 0, q 0, q 0, q 0, bf, bf, bf, q 34, q 0, q 1, q 0, q 0, q 0, q 0, q 0, q 0, bf, bf, bf, q 35, q 0, q 1, q 0, q 0, q 0, q 0, q 0, q 0, bf, bf, bf, q 36, q 0, q 1, q 0, q 0, q 0, q 0, q 0, q 0, bf, bf, bf, q 37, q 1, q 1, q 0, q 0, q 0, q 0, q 0, q 0, bf, bf, bf, q 38, q 1, q 1, q 0, q 0, q 0, q 0, q 0, q 0, bf, bf, bf, q 39, q 1, q 1, q 0, q 0, q 0, q 0, q 0, q 0, bf, bf, bf, q 40, q 1, q 1, q 0, q 0, q 0, q 0, q 0, q 0, bf, bf, bf]
def c14 : List At := [q 1, q 0, q 0, q 0, q 0, q 0, q 0, q 0, q 0, bt, bt, bf, q 2, q 0, q 0, q 0, q 0, q 0, q 0, q 0, q 0, bf, bf, bf, q 3, q 0, q 0, q 0, q 0, q 0, q 0, q 0, q 0, bf, bf, bf, q 4, q 0, q 0, q 0, q 0, q 0, q 0, q 0, q 0, bf, bf, bf, q 5, q 0, q 0, q 0, q 0, q 0, q 0, q 0, q 0, bf, bf, bf, q 6, q 0, q 0, q 0, q 0, q 0, q 0, q 0, q 0, bf, bf, bf, q 7, q 0, q 0, q 0, q 0, q 0, q 0, q 0, q 0, bf, bf, bf, q 8, q 0, q 0, q 0, q 0, q 0, q 0, q 0, q 0, bf, bf, bf, q 9, q 0, q 0, q 0, q 0, q 0, q 0, q 0, q 0, bf, bf, bf, q 10, q 0, q 0, q 0, q 0, q 0, q 0, q 0, q 0, bf, bf, bf, q 11, q 0, q 0, q 0, q 0, q 0, q 0, q 0, q 0, bf, bf, bf, q 12, q 0, q 0, q 0, q 0, q 0, q 0, q 0, q 0, bf, bf, bf, q 13, q 0, q 0, q 0, q 0, q 0, q 0, q 0, q 0, bf, bf, bf, q 14, q 0, q 0, q 0, q 0, q 0, q 0, q 0, q 0, bf, bf, bf, q 15, q 0, q 0, q 0, q 0, q 0, q 0, q 0, q 0, bf, bf, bf, q 16, q 0, q 0, q 0, q 0, q 0, q 0, q 0, q 0, bf, bf, bf, q 17, q 1, q 0, q 0, q 0, q 0, q 0, q 0, q 0, bt, bt, bf, q 18, q 1, q 0, q 0, q 0, q 0, q 0, q 0, q 0, bf, bf, bf, q 19, q 1, q 0, q 0, q 0, q 0, q 0, q 0, q 0, bf, bf, bf, q 20, q 1, q 0, q 0, q 0, q 0, q 0, q 0, q 0, bf, bf, bf, q 21, q 0, q 1, q 0, q 0, q 0, q 0, q 0, q 0, bf, bf, bf, q 22, q 0, q 1, q 0, q 0, q 0, q 0, q 0, q 0, bf, bf, bf, q 23, q 0, q 1, q 0, q 0, q 0, q 0, q 0, q 0, bf, bf, bf, q 24, q 0, q 1, q 0, q 0, q 0, q 0, q 0, q 0, bf, bf, bf, q 25, q 0, q 1, q 0, q 0, q 0, q 0, q 0, q 0, bf, bf, bf, q 26, q 0, q 1, q 0, q 0, q 0, q 0, q 0, q 0, bf, bf, bf, q 27, q 0, q 1, q 0, q 0, q 0, q 0, q 0, q 0, bf, bf, bf, q 28, q 0, q 1, q 0, q 0, q 0, q 0, q 0, q 0, bf, bf, bf, q 29, q 0, q 1, q 0, q 0, q 0, q 0, q 0, q 0, bf, bf, bf, q 30, q 0, q 1, q 0, q 0, q 0, q 0, q 0, q 0, bf, bf, bf, q 31, q 0, q 1, q 0, q 0, q 0, q 0, q 0, q 0, bf, bf, bf, q 32, q 0, q 1, q 0, q 0, q 0, q 0, q 0, q 0, bf, bf, bf, q 33, q 0, q 1, q 0, q 0, q 0, q 0, q 0, q 0, bf, bf, bf, q 34, q 0, q 1, q 0, q 0, q 0, q 0, q 0, q 0, bf, bf, bf, q 35, q 0, q 1, q 0, q 0, q 0, q 0, q 0, q 0, bf, bf, bf, q 36, q 0, q 1, q 0, q 0, q 0, q 0, q 0, q 0, bf, bf, bf, q 37, q 1, q 1, q 0, q 0, q 0, q 0, q 0, q 0, bf, bf, bf, q 38, q 1, q 1, q 0, q 0, q 0, q 0, q 0, q 0, bf, bf, bf, q 39, q 1, q 1, q 0, q 0, q 0, q 0, q 0, q 0, bf, bf, bf, q 40, q 1, q 1, q 0, q 0, q 0, q 0, q 0, q 0, bf, bf, bf]
def c15 : List At := [.k (.int .u64 0), .k (.int .u64 0), .k (.int .u64 0), .k (.int .u64 0), .k (.int .u64 0), .k (.int .u64 0), .k (.int .u64 0), .k (.int .u64 0), .k (.int .u64 0), .k (.int .u64 0), .k (.int .u64 0), .k (.int .u64 0), .k (.int .u64 0), .k (.int .u64 0), .k (.int .u64 0), .k (.int .u64 0), .k (.int .u64 0), .k (.int .u64 0), .k (.int .u64 0), .k (.int .u64 0), .k (.int .u64 0), .k (.int .u64 0), .k (.int .u64 0), .k (.int .u64 0), .k (.int .u64 0), .k (.int .u64 0), .k (.int .u64 0), .k (.int .u64 0), .k (.int .u64 0), .k (.int .u64 0), .k (.int .u64 0), .k (.int .u64 0), .k (.int .u64 0), .k (.int .u64 0), .k (.int .u64 0), .k (.int .u64 0), .k (.int .u64 0), .k (.int .u64 0), .k (.int .u64 0), .k (.int .u64 0), .k (.int .u64 0), .k (.int .u64 0), .k (.int .u64 0), .k (.int .u64 0), .k (.int .u64 0), .k (.int .u64 0), .k (.int .u64 0), .k (.int .u64 0), .k (.int .u64 0), .k (.int .u64 0), .k (.int .u64 0), .k (.int .u64 0), .k (.int .u64 0), .k (.int .u64 0), .k (.int .u64 0), .k (.int .u64 0), .k (.int .u64 0), .k (.int .u64 0), .k (.int .u64 0), .k (.int .u64 0), .k (.int .u64 0), .k (.int .u64 0), .k (.int .u64 0), .k (.int .u64 0), .k (.int .u64 0), .k (.int .u64 0), .k (.int .u64 0), .k (.int .u64 0), .k (.int .u64 0), .k (.int .u64 0), .k (.int .u64 0), .k (.int .u64 0), .k (.int .u64 0), .k (.int .u64 0), .k (.int .u64 0), .k (.int .u64 0), .k (.int .u64 0), .k (.int .u64 0), .k (.int .u64 0), .k (.int .u64 0), .k (.int .u64 0), .k (.int .u64 0), .k (.int .u64 0), .k (.int .u64 0), .k (.int .u64 0), .k (.int .u64 0), .k (.int .u64 0), .k (.int .u64 0), .k (.int .u64 0), .k (.int .u64 0), .k (.int .u64 0), .k (.int .u64 0), .k (.int .u64 0), .k (.int .u64 0), .k (.int .u64 0), .k (.int .u64 0), .k (.int .u64 0), .k (.int .u64 0), .k (.int .u64 0), .k (.int .u64 0), .k (.int .u64 0), .k (.int .u64 0), .k (.int .u64 0), .k (.int .u64 0), .k (.int .u64 0), .k (.int .u64 0), .k (.int .u64 0), .k (.int .u64 0), .k (.int .u64 0), .k (.int .u64 0), .k (.int .u64 0), .k (.int .u64 0), .k (.int .u64 0), .k (.int .u64 0), .k (.int .u64 0), .k (.int .u64 0), .k (.int .u64 0), .k (.int .u64 0), .k (.int .u64 0), .k (.int .u64 0), .k (.int .u64 0), .k (.int .u64 0), .k (.int .u64 0), .k (.int .u64 0), .k (.int .u64 0), .k (.int .u64 0), .k (.int .u64 0), .k (.int .u64 0), .k (.int .u64 0), .k (.int .u64 0), .k (.int .u64 0), .k (.int .u64 0), .k (.int .u64 0), .k (.int .u64 0), .k (.int .u64 0), .k (.int .u64 0), .k (.int .u64 0), .k (.int .u64 0), .k (.int .u64 0), .k (.int .u64 0), .k (.int .u64 0), .k (.int .u64 0), .k (.int .u64 0), .k (.int .u64 0), .k (.int .u64 0), .k (.int .u64 0), .k (.int .u64 0), .k (.int .u64 0), .k (.int .u64 0), .k (.int .u64 0), .k (.int .u64 0), .k (.int .u64 0), .k (.int .u64 0), .k (.int .u64 0), .k (.int .u64 0), .k (.int .u64 0), .k (.int .u64 0), .k (.int .u64 0), .k (.int .u64 0), .k (.int .u64 0), .k (.int .u64 0), .k (.int .u64 0), .k (.int .u64 0), .k (.int .u64 0), .k (.int .u64 0), .k (.int .u64 0), .k (.int .u64 0), .k (.int .u64 0), .k (.int .u64 0), .k (.int .u64 0), .k (.int .u64 0), .k (.int .u64 0), .k (.int .u64 0), .k (.int .u64 0), .k (.int .u64 0), .k (.int .u64 0), .k (.int .u64 0), .k (.int .u64 0), .k (.int .u64 0), .k (.int .u64 0), .k (.int .u64 0), .k (.int .u64 0), .k (.int .u64 0), .k (.int .u64 0), .k (.int .u64 0), .k (.int .u64 0), .k (.int .u64 0), .k (.int .u64 0), .k (.int .u64 0), .k (.int .u64 0), .k (.int .u64 0), .k (.int .u64 0), .k (.int .u64 0), .k (.int .u64 0), .k (.int .u64 0), .k (.int .u64 0), .k (.int .u64 0), .k (.int .u64 0), .k (.int .u64 0), .k (.int .u64 0), .k (.int .u64 0), .k (.int .u64 0), .k (.int .u64 0), .k (.int .u64 0), .k (.int .u64 0), .k (.int .u64 0), .k (.int .u64 0), .k (.int .u64 0), .k (.int .u64 0), .k (.int .u64 0), .k (.int .u64 0), .k (.int .u64 0), .k (.int .u64 0), .k (.int .u64 0), .k (.int .u64 0), .k (.int .u64 0), .k (.int .u64 0), .k (.int .u64 0), .k (.int .u64 0), .k (.int .u64 0), .k (.int .u64 0), .k (.int .u64 0), .k (.int .u64 0), .k (.int .u64 0), .k (.int .u64 0), .k (.int .u64 0), .k (.int .u64 0), .k (.int .u64 0), .k (.int .u64 0), .k (.int .u64 0), .k (.int .u64 0), .k (.int .u64 0), .k (.int .u64 0), .k (.int .u64 0), .k (.int .u64 0), .k (.int .u64 0), .k (.int .u64 0), .k (.int .u64 0), .k (.int .u64 0), .k (.int .u64 0), .k (.int .u64 0), .k (.int .u64 0), .k (.int .u64 0), .k (.int .u64 0), .k (.int .u64 0), .k (.int .u64 0), .k (.int .u64 0), .k (.int .u64 0), .k (.int .u64 0), .k (.int .u64 0), .k (.int .u64 0), .k (.int .u64 0), .k (.int .u64 0), .k (.int .u64 0), .k (.int .u64 0), .k (.int .u64 0), .k (.int .u64 0), .k (.int .u64 0), .k (.int .u64 0), .k (.int .u64 0), .k (.int .u64 0), .k (.int .u64 0), .k (.int .u64 0), .k (.int .u64 0), .k (.int .u64 0), .k (.int .u64 0), .k (.int .u64 0), .k (.int .u64 0), .k (.int .u64 0), .k (.int .u64 0), .k (.int .u64 0), .k (.int .u64 0), .k (.int .u64 0), .k (.int .u64 0), .k (.int .u64 0), .k (.int .u64 0), .k (.int .u64 0), .k (.int .u64 0), .k (.int .u64 0), .k (.int .u64 0), .k (.int .u64 0), .k (.int .u64 0), .k (.int .u64 0), .k (.int .u64 0), .k (.int .u64 0), .k (.int .u64 0), .k (.int .u64 0), .k (.int .u64 0), .k (.int .u64 0), .k (.int .u64 0), .k (.int .u64 0), .k (.int .u64 0), .k (.int .u64 0), .k (.int .u64 0), .k (.int .u64 0), .k (.int .u64 0), .k (.int .u64 0), .k (.int .u64 0), .k (.int .u64 0), .k (.int .u64 0), .k (.int .u64 0), .k (.int .u64 0), .k (.int .u64 0), .k (.int .u64 0), .k (.int .u64 0), .k (.int .u64 0), .k (.int .u64 0), .k (.int .u64 0), .k (.int .u64 0), .k (.int .u64 0), .k (.int .u64 0), .k (.int .u64 0), .k (.int .u64 0), .k (.int .u64 0), .k (.int .u64 0), .k (.int .u64 0), .k (.int .u64 0), .k (.int .u64 0), .k (.int .u64 0), .k (.int .u64 0), .k (.int .u64 0), .k (.int .u64 0), .k (.int .u64 0), .k (.int .u64 0), .k (.int .u64 0), .k (.int .u64 0), .k (.int .u64 0), .k (.int .u64 0), .k (.int .u64 0), .k (.int .u64 0), .k (.int .u64 0), .k (.int .u64 0), .k (.int .u64 0), .k (.int .u64 0), .k (.int .u64 0), .k (.int .u64 0), .k (.int .u64 0), .k (.int .u64 0), .k (.int .u64 0), .k (.int .u64 0), .k (.int .u64 0), .k (.int .u64 0), .k (.int .u64 0), .k (.int .u64 0), .k (.int .u64 0), .k (.int .u64 0), .k (.int .u64 0), .k (.int .u64 0), .k (.int .u64 0), .k (.int .u64 0), .k (.int .u64 0), .k (.int .u64 0), .k (.int .u64 0), .k (.int .u64 0), .k (.int .u64 0), .k (.int .u64 0), .k (.int .u64 0), .k (.int .u64 0), .k (.int .u64 0), .k (.int .u64 0), .k (.int .u64 0), .k (.int .u64 0), .k (.int .u64 0), .k (.int .u64 0), .k (.int .u64 0), .k (.int .u64 0), .k (.int .u64 0), .k (.int .u64 0), .k (.int .u64 0), .k (.int .u64 0), .k (.int .u64 0), .k (.int .u64 0), .k (.int .u64 0), .k (.int .u64 0), .k (.int .u64 0), .k (.int .u64 0), .k (.int .u64 0), .k (.int .u64 0), .k (.int .u64 0), .k (.int .u64 0), .k (.int .u64 0), .k (.int .u64 0), .k (.int .u64 0), .k (.int .u64 0), .k (.int .u64 0), .k (.int .u64 0), .k (.int .u64 0), .k (.int .u64 0), .k (.int .u64 0), .k (.int .u64 0), .k (.int .u64 0), .k (.int .u64 0), .k (.int .u64 0), .k (.int .u64 0), .k (.int .u64 0), .k (.int .u64 0), .k (.int .u64 0), .k (.int .u64 0), .k (.int .u64 0), .k (.int .u64 0), .k (.int .u64 0), .k (.int .u64 0), .k (.int .u64 0), .k (.int .u64 0), .k (.int .u64 0), .k (.int .u64 0), .k (.int .u64 0), .k (.int .u64 0), .k (.int .u64 0), .k (.int .u64 0), .k (.int .u64 0), .k (.int .u64 0), .k (.int .u64 0), .k (.int .u64 0), .k (.int .u64 0), .k (.int .u64 0), .k (.int .u64 0), .k (.int .u64 0), .k (.int .u64 0), .k (.int .u64 0), .k (.int .u64 0), .k (.int .u64 0), .k (.int .u64 0), .k (.int .u64 0), .k (.int .u64 0), .k (.int .u64 0), .k (.int .u64 0), .k (.int .u64 0), .k (.int .u64 0), .k (.int .u64 0), .k (.int .u64 0), .k (.int .u64 0), .k (.int .u64 0), .k (.int .u64 0), .k (.int .u64 0), .k (.int .u64 0), .k (.int .u64 0), .k (.int .u64 0), .k (.int .u64 0), .k (.int .u64 0), .k (.int .u64 0), .k (.int .u64 0), .k (.int .u64 0), .k (.int .u64 0), .k (.int .u64 0), .k (.int .u64 0), .k (.int .u64 0), .k (.int .u64 0), .k (.int .u64 0), .k (.int .u64 0), .k (.int .u64 0), .k (.int .u64 0), .k (.int .u64 0), .k (.int .u64 0), .k (.int .u64 0), .k (.int .u64 0), .k (.int .u64 0), .k (.int .u64 0), .k (.int .u64 0), .k (.int .u64 0), .k (.int .u64 0), .k (.int .u64 0), .k (.int .u64 0), .k (.int .u64 0), .k (.int .u64 0), .k (.int .u64 0), .k (.int .u64 0), .k (.int .u64 0), .k (.int .u64 0), .k (.int .u64 0), .k (.int .u64 0), .k (.int .u64 0), .k (.int .u64 0), .k (.int .u64 0), .k (.int .u64 0), .k (.int .u64 0), .k (.int .u64 0), .k (.int .u64 0), .k (.int .u64 0), .k (.int .u64 0), .k (.int .u64 0), .k (.int .u64 0), .k (.int .u64 0), .k (.int .u64 0), .k (.int .u64 0), .k (.int .u64 0), .k (.int .u64 0), .k (.int .u64 0), .k (.int .u64 0), .k (.int .u64 0), .k (.int .u64 0), .k (.int .u64 0), .k (.int .u64 0), .k (.int .u64 0), .k (.int .u64 0), .k (.int .u64 0), .k (.int .u64 0), .k (.int .u64 0), .k (.int .u64 0), .k (.int .u64 0), .k (.int .u64 0), .k (.int .u64 0), .k (.int .u64 0), .k (.int .u64 0), .k (.int .u64 0), .k (.int .u64 0), .k (.int .u64 0), .k (.int .u64 0), .k (.int .u64 0), .k (.int .u64 0), .k (.int .u64 0), .k (.int .u64 0), .k (.int .u64 0), .k (.int .u64 0), .k (.int .u64 0), .k (.int .u64 0), .k (.int .u64 0), .k (.int .u64 0), .k (.int .u64 0), .k (.int .u64 0), .k (.int .u64 0), .k (.int .u64 0), .k (.int .u64 0), .k (.int .u64 0), .k (.int .u64 0), .k (.int .u64 0), .k (.int .u64 0), .k (.int .u64 0), .k (.int .u64 0), .k (.int .u64 0), .k (.int .u64 0), .k (.int .u64 0), .k (.int .u64 0), .k (.int .u64 0), .k (.int .u64 0), .k (.int .u64 0), .k (.int .u64 0), .k (.int .u64 0), .k (.int .u64 0), .k (.int .u64 0), .k (.int .u64 0), .k (.int .u64 0), .k (.int .u64 0), .k (.int .u64 0), .k (.int .u64 0), .k (.int .u64 0), .k (.int .u64 0), .k (.int .u64 0), .k (.int .u64 0), .k (.int .u64 0), .k (.int .u64 0), .k (.int .u64 0), .k (.int .u64 0), .k (.int .u64 0), .k (.int .u64 0), .k (.int .u64 0), .k (.int .u64 0), .k (.int .u64 0), .k (.int .u64 0), .k (.int .u64 0), .k (.int .u64 0), .k (.int .u64 0), .k (.int .u64 0), .k (.int .u64 0), .k (.int .u64 0), .k (.int .u64 0), .k (.int .u64 0), .k (.int .u64 0), .k (.int .u64 0), .k (.int .u64 0), .k (.int .u64 0), .k (.int .u64 0), .k (.int .u64 0), .k (.int .u64 0), .k (.int .u64 0), .k (.int .u64 0), .k (.int .u64 0), .k (.int .u64 0), .k (.int .u64 0), .k (.int .u64 0), .k (.int .u64 0), .k (.int .u64 0), .k (.int .u64 0), .k (.int .u64 0), .k (.int .u64 0), .k (.int .u64 0), .k (.int .u64 0), .k (.int .u64 0), .k (.int .u64 0), .k (.int .u64 0), .k (.int .u64 0), .k (.int .u64 0), .k (.int .u64 0), .k (.int .u64 0), .k (.int .u64 0), .k (.int .u64 0), .k (.int .u64 0), .k (.int .u64 0), .k (.int .u64 0), .k (.int .u64 0), .k (.int .u64 0), .k (.int .u64 0), .k (.int .u64 0), .k (.int .u64 0), .k (.int .u64 0), .k (.int .u64 0), .k (.int .u64 0), .k (.int .u64 0), .k (.int .u64 0), .k (.int .u64 0), .k (.int .u64 0), .k (.int .u64 0), .k (.int .u64 0), .k (.int .u64 0), .k (.int .u64 0), .k (.int .u64 0), .k (.int .u64 0), .k (.int .u64 0), .k (.int .u64 0), .k (.int .u64 0), .k (.int .u64 0), .k (.int .u64 0), .k (.int .u64 0), .k (.int .u64 0), .k (.int .u64 0), .k (.int .u64 0), .k (.int .u64 0), .k (.int .u64 0), .k (.int .u64 0), .k (.int .u64 0), .k (.int .u64 0), .k (.int .u64 0), .k (.int .u64 0), .k (.int .u64 0), .k (.int .u64 0), .k (.int .u64 0), .k (.int .u64 0), .k (.int .u64 0), .k (.int .u64 0), .k (.int .u64 0), .k (.int .u64 0), .k (.int .u64 0), .k (.int .u64 0), .k (.int .u64 0), .k (.int .u64 0), .k (.int .u64 0), .k (.int .u64 0), .k (.int .u64 0), .k (.int .u64 0), .k (.int .u64 0), .k (.int .u64 0), .k (.int .u64 0), .k (.int .u64 0), .k (.int .u64 0), .k (.int .u64 0), .k (.int .u64 0), .k (.int .u64 0), .k (.int .u64 0), .k (.int .u64 0), .k (.int .u64 0), .k (.int .u64 0), .k (.int .u64 0), .k (.int .u64 0), .k (.int .u64 0), .k (.int .u64 0), .k (.int .u64 0), .k (.int .u64 0), .k (.int .u64 0), .k (.int .u64 0), .k (.int .u64 0), .k (.int .u64 0), .k (.int .u64 0), .k (.int .u64 0), .k (.int .u64 0), .k (.int .u64 0), .k (.int .u64 0), .k (.int .u64 0), .k (.int .u64 0), .k (.int .u64 0), .k (.int .u64 0), .k (.int .u64 0), .k (.int .u64 0), .k (.int .u64 0), .k (.int .u64 0), .k (.int .u64 0), .k (.int .u64 0), .k (.int .u64 0), .k (.int .u64 0), .k (.int .u64 0), .k (.int .u64 0), .k (.int .u64 0), .k (.int .u64 0), .k (.int .u64 0), .k (.int .u64 0), .k (.int .u64 0), .k (.int .u64 0), .k (.int .u64 0), .k (.int .u64 0), .k (.int .u64 0), .k (.int .u64 0), .k (.int .u64 0), .k (.int .u64 0), .k (.int .u64 0), .k (.int .u64 0), .k (.int .u64 0), .k (.int .u64 0), .k (.int .u64 0), .k (.int .u64 0), .k (.int .u64 0), .k (.int .u64 0), .k (.int .u64 0), .k (.int .u64 0), .k (.int .u64 0), .k (.int .u64 0), .k (.int .u64 0), .k (.int .u64 0), .k (.int .u64 0), .k (.int .u64 0), .k (.int .u64 0), .k (.int .u64 0), .k (.int .u64 0), .k (.int .u64 0), .k (.int .u64 0), .k (.int .u64 0), .k (.int .u64 0), .k (.int .u64 0), .k (.int .u64 0), .k (.int .u64 0), .k (.int .u64 0), .k (.int .u64 0), .k (.int .u64 0), .k (.int .u64 0), .k (.int .u64 0), .k (.int .u64 0), .k (.int .u64 0), .k (.int .u64 0), .k (.int .u64 0), .k (.int .u64 0), .k (.int .u64 0), .k (.int .u64 0), .k (.int .u64 0), .k (.int .u64 0), .k (.int .u64 0), .k (.int .u64 0), .k (.int .u64 0), .k (.int .u64 0), .k (.int .u64 0), .k (.int .u64 0), .k (.int .u64 0), .k (.int .u64 0), .k (.int .u64 0), .k (.int .u64 0), .k (.int .u64 0), .k (.int .u64 0), .k (.int .u64 0), .k (.int .u64 0), .k (.int .u64 0), .k (.int .u64 0), .k (.int .u64 0), .k (.int .u64 0), .k (.int .u64 0), .k (.int .u64 0), .k (.int .u64 0), .k (.int .u64 0), .k (.int .u64 0), .k (.int .u64 0), .k (.int .u64 0), .k (.int .u64 0), .k (.int .u64 0), .k (.int .u64 0), .k (.int .u64 0), .k (.int .u64 0), .k (.int .u64 0), .k (.int .u64 0), .k (.int .u64 0), .k (.int .u64 0), .k (.int .u64 0), .k (.int .u64 0), .k (.int .u64 0), .k (.int .u64 0), .k (.int .u64 0), .k (.int .u64 0), .k (.int .u64 0), .k (.int .u64 0), .k (.int .u64 0), .k (.int .u64 0), .k (.int .u64 0), .k (.int .u64 0), .k (.int .u64 0), .k (.int .u64 0), .k (.int .u64 0), .k (.int .u64 0), .k (.int .u64 0), .k (.int .u64 0), .k (.int .u64 0), .k (.int .u64 0), .k (.int .u64 0), .k (.int .u64 0), .k (.int .u64 0), .k (.int .u64 0)]
def c16 : List At := [q 1, q 0, q 0, q 4, q 21, q 0, q 4, q 34, q 0, q 4, q 35, q 0, q 4, q 36, q 0]
def c17 : List At := [q 22, q 23, q 24, q 25, q 26, q 27, q 28, q 29, q 30, q 31, q 32, q 33]
def c18 : List At := [q 1, q 0, q 0, q 0, q 0, q 0, q 0, q 0, q 0, bf, bf, bf, q 2, q 0, q 0, q 0, q 0, q 0, q 0, q 0, q 0, bf, bf, bf, q 3, q 0, q 0, q 0, q 0, q 0, q 0, q 0, q 0, bf, bf, bf, q 4, q 0, q 0, q 0, q 0, q 0, q 0, q 0, q 0, bf, bf, bf, q 5, q 0, q 0, q 0, q 0, q 0, q 0, q 0, q 0, bf, bf, bf, q 6, q 0, q 0, q 0, q 0, q 0, q 0, q 0, q 0, bf, bf, bf, q 7, q 0, q 0, q 0, q 0, q 0, q 0, q 0, q 0, bf, bf, bf, q 8, q 0, q 0, q 0, q 0, q 0, q 0, q 0, q 0, bf, bf, bf, q 9, q 0, q 0, q 0, q 0, q 0, q 0, q 0, q 0, bf, bf, bf, q 10, q 0, q 0, q 0, q 0, q 0, q 0, q 0, q 0, bf, bf, bf, q 11, q 0, q 0, q 0, q 0, q 0, q 0, q 0, q 0, bf, bf, bf, q 12, q 0, q 0, q 0, q 0, q 0, q 0, q 0, q 0, bf, bf, bf, q 13, q 0, q 0, q 0, q 0, q 0, q 0, q 0, q 0, bf, bf, bf, q 14, q 0, q 0, q 0, q 0, q 0, q 0, q 0, q 0, bf, bf, bf, q 15, q 0, q 0, q 0, q 0, q 0, q 0, q 0, q 0, bf, bf, bf, q 16, q 0, q 0, q 0, q 0, q 0, q 0, q 0, q 0, bf, bf, bf, q 17, q 1, q 0, q 0, q 0, q 0, q 0, q 0, q 0, bf, bf, bf, q 18, q 1, q 0, q 0, q 0, q 0, q 0, q 0, q 0, bf, bf, bf, q 19, q 1, q 0, q 0, q 0, q 0, q 0, q 0, q 0, bf, bf, bf, q 20, q 1, q 0, q 0, q 0, q 0, q 0, q 0, q 0, bf, bf, bf, q 21, q 0, q 1, q 0, q 0, q 0, q 0, q 0, q 0, bf, bt, bf, q 22, q 0, q 1, q 0, q 0, q 0, q 0, q 0, q 0, bf, bf, bf, q 23, q 0, q 1, q 0, q 0, q 0, q 0, q 0, q 0, bf, bf, bf, q 24, q 0, q 1, q 0, q 0, q 0, q 0, q 0, q 0, bf, bf, bf, q 25, q 0, q 1, q 0, q 0, q 0, q 0, q 0, q 0, bf, bf, bf, q 26, q 0, q 1, q 0, q 0, q 0, q 0, q 0, q 0, bf, bf, bf, q 27, q 0, q 1, q 0, q 0, q 0, q 0, q 0, q 0, bf, bf, bf, q 28, q 0, q 1, q 0, q 0, q 0, q 0, q 0, q 0, bf, bf, bf, q 29, q 0, q 1, q 0, q 0, q 0, q 0, q 0, q 0, bf, bf, bf, q 30, q 0, q 1, q 0, q 0, q 0, q 0, q 0, q 0, bf, bf, bf, q 31, q 0, q 1, q 0, q 0, q 0, q 0, q 0, q 0, bf, bf, bf, q 32, q 0, q 1, q 0, q 0, q 0, q 0, q 0, q 0, bf, bf, bf, q 33, q 0, q 1, q 0, q 0, q 0, q 0, q 0, q 0, bf, bf, bf, q 34, q 0, q 1, q 0, q 0, q 0, q 0, q 0, q 0, bf, bf, bf, q 35, q 0, q 1, q 0, q 0, q 0, q 0, q 0, q 0, bf, bf, bf, q 36, q 0, q 1, q 0, q 0, q 0, q 0, q 0, q 0, bf, bf, bf, q 37, q 1, q 1, q 0, q 0, q 0, q 0, q 0, q 0, bf, bf, bf, q 38, q 1, q 1, q 0, q 0, q 0, q 0, q 0, q 0, bf, bf, bf, q 39, q 1, q 1, q 0, q 0, q 0, q 0, q 0, q 0, bf, bf, bf, q 40, q 1, q 1, q 0, q 0, q 0, q 0, q 0, q 0, bf, bf, bf]
def c19 : List At := [q 1, q 0, q 0, q 4, q 37, q 0, q 4, q 38, q 0, q 4, q 39, q 0, q 4, q 40, q 0]
def c20 : List At := [q 1, q 0, q 0, q 0, q 0, q 0, q 0, q 0, q 0, bf, bf, bf, q 2, q 0, q 0, q 0, q 0, q 0, q 0, q 0, q 0, bf, bf, bf, q 3, q 0, q 0, q 0, q 0, q 0, q 0, q 0, q 0, bf, bf, bf, q 4, q 0, q 0, q 0, q 0, q 0, q 0, q 0, q 0, bf, bf, bf, q 5, q 0, q 0, q 0, q 0, q 0, q 0, q 0, q 0, bf, bf, bf, q 6, q 0, q 0, q 0, q 0, q 0, q 0, q 0, q 0, bf, bf, bf, q 7, q 0, q 0, q 0, q 0, q 0, q 0, q 0, q 0, bf, bf, bf, q 8, q 0, q 0, q 0, q 0, q 0, q 0, q 0, q 0, bf, bf, bf, q 9, q 0, q 0, q 0, q 0, q 0, q 0, q 0, q 0, bf, bf, bf, q 10, q 0, q 0, q 0, q 0, q 0, q 0, q 0, q 0, bf, bf, bf, q 11, q 0, q 0, q 0, q 0, q 0, q 0, q 0, q 0, bf, bf, bf, q 12, q 0, q 0, q 0, q 0, q 0, q 0, q 0, q 0, bf, bf, bf, q 13, q 0, q 0, q 0, q 0, q 0, q 0, q 0, q 0, bf, bf, bf, q 14, q 0, q 0, q 0, q 0, q 0, q 0, q 0, q 0, bf, bf, bf, q 15, q 0, q 0, q 0, q 0, q 0, q 0, q 0, q 0, bf, bf, bf, q 16, q 0, q 0, q 0, q 0, q 0, q 0, q 0, q 0, bf, bf, bf, q 17, q 1, q 0, q 0, q 0, q 0, q 0, q 0, q 0, bf, bf, bf, q 18, q 1, q 0, q 0, q 0, q 0, q 0, q 0, q 0, bf, bf, bf, q 19, q 1, q 0, q 0, q 0, q 0, q 0, q 0, q 0, bf, bf, bf, q 20, q 1, q 0, q 0, q 0, q 0, q 0, q 0, q 0, bf, bf, bf, q 21, q 0, q 1, q 0, q 0, q 0, q 0, q 0, q 0, bt, bt, bf, q 22, q 0, q 1, q 0, q 0, q 0, q 0, q 0, q 0, bf, bf, bf, q 23, q 0, q 1, q 0, q 0, q 0, q 0, q 0, q 0, bf, bf, bf, q 24, q 0, q 1, q 0, q 0, q 0, q 0, q 0, q 0, bf, bf, bf, q 25, q 0, q 1, q 0, q 0, q 0, q 0, q 0, q 0, bf, bf, bf, q 26, q 0, q 1, q 0, q 0, q 0, q 0, q 0, q 0, bf, bf, bf, q 27, q 0, q 1, q 0, q 0, q 0, q 0, q 0, q 0, bf, bf, bf, q 28, q 0, q 1, q 0, q 0, q 0, q 0, q 0, q 0, bf, bf, bf, q 29, q 0, q 1, q 0, q 0, q 0, q 0, q 0, q 0, bf, bf, bf, q 30, q 0, q 1, q 0, q 0, q 0, q 0, q 0, q 0, bf, bf, bf, q 31, q 0, q 1, q 0, q 0, q 0, q 0, q 0, q 0, bf, bf, bf, q 32, q 0, q 1, q 0, q 0, q 0, q 0, q 0, q 0, bf, bf, bf, q 33, q 0, q 1, q 0, q 0, q 0, q 0, q 0, q 0, bf, bf, bf, q 34, q 0, q 1, q 0, q 0, q 0, q 0, q 0, q 0, bf, bf, bf, q 35, q 0, q 1, q 0, q 0, q 0, q 0, q 0, q 0, bf, bf, bf, q 36, q 0, q 1, q 0, q 0, q 0, q 0, q 0, q 0, bf, bf, bf, q 37, q 1, q 1, q 0, q 0, q 0, q 0, q 0, q 0, bf, bf, bf, q 38, q 1, q 1, q 0, q 0, q 0, q 0, q 0, q 0, bf, bf, bf, q 39, q 1, q 1, q 0, q 0, q 0, q 0, q 0, q 0, bf, bf, bf, q 40, q 1, q 1, q 0, q 0, q 0, q 0, q 0, q 0, bf, bf, bf]
def c21 : List At := [q 1, q 0, q 0, q 0, q 0, q 0, q 0, q 0, q 0, bf, bf, bf, q 2, q 0, q 0, q 0, q 0, q 0, q 0, q 0, q 0, bf, bf, bf, q 3, q 0, q 0, q 0, q 0, q 0, q 0, q 0, q 0, bf, bf, bf, q 4, q 0, q 0, q 0, q 0, q 0, q 0, q 0, q 0, bf, bf, bf, q 5, q 0, q 0, q 0, q 0, q 0, q 0, q 0, q 0, bf, bf, bf, q 6, q 0, q 0, q 0, q 0, q 0, q 0, q 0, q 0, bf, bf, bf, q 7, q 0, q 0, q 0, q 0, q 0, q 0, q 0, q 0, bf, bf, bf, q 8, q 0, q 0, q 0, q 0, q 0, q 0, q 0, q 0, bf, bf, bf, q 9, q 0, q 0, q 0, q 0, q 0, q 0, q 0, q 0, bf, bf, bf, q 10, q 0, q 0, q 0, q 0, q 0, q 0, q 0, q 0, bf, bf, bf, q 11, q 0, q 0, q 0, q 0, q 0, q 0, q 0, q 0, bf, bf, bf, q 12, q 0, q 0, q 0, q 0, q 0, q 0, q 0, q 0, bf, bf, bf, q 13, q 0, q 0, q 0, q 0, q 0, q 0, q 0, q 0, bf, bf, bf, q 14, q 0, q 0, q 0, q 0, q 0, q 0, q 0, q 0, bf, bf, bf, q 15, q 0, q 0, q 0, q 0, q 0, q 0, q 0, q 0, bf, bf, bf, q 16, q 0, q 0, q 0, q 0, q 0, q 0, q 0, q 0, bf, bf, bf, q 17, q 1, q 0, q 0, q 0, q 0, q 0, q 0, q 0, bf, bf, bf, q 18, q 1, q 0, q 0, q 0, q 0, q 0, q 0, q 0, bf, bf, bf, q 19, q 1, q 0, q 0, q 0, q 0, q 0, q 0, q 0, bf, bf, bf, q 20, q 1, q 0, q 0, q 0, q 0, q 0, q 0, q 0, bf, bf, bf, q 21, q 0, q 1, q 0, q 0, q 0, q 0, q 0, q 0, bt, bt, bf, q 22, q 0, q 1, q 0, q 0, q 0, q 0, q 0, q 0, bf, bf, bf, q 23, q 0, q 1, q 0, q 0, q 0, q 0, q 0, q 0, bf, bf, bf, q 24, q 0, q 1, q 0, q 0, q 0, q 0, q 0, q 0, bf, bf, bf, q 25, q 0, q 1, q 0, q 0, q 0, q 0, q 0, q 0, bf, bf, bf, q 26, q 0, q 1, q 0, q 0, q 0, q 0, q 0, q 0, bf, bf, bf, q 27, q 0, q 1, q 0, q 0, q 0, q 0, q 0, q 0, bf, bf, bf, q 28, q 0, q 1, q 0, q 0, q 0, q 0, q 0, q 0, bf, bf, bf, q 29, q 0, q 1, q 0, q 0, q 0, q 0, q 0, q 0, bf, bf, bf, q 30, q 0, q 1, q 0, q 0, q 0, q 0, q 0, q 0, bf, bf, bf, q 31, q 0, q 1, q 0, q 0, q 0, q 0, q 0, q 0, bf, bf, bf, q 32, q 0, q 1, q 0, q 0, q 0, q 0, q 0, q 0, bf, bf, bf, q 33, q 0, q 1, q 0, q 0, q 0, q 0, q 0, q 0, bf, bf, bf, q 34, q 0, q 1, q 0, q 0, q 0, q 0, q 0, q 0, bf, bf, bf, q 35, q 0, q 1, q 0, q 0, q 0, q 0, q 0, q 0, bf, bf, bf, q 36, q 0, q 1, q 0, q 0, q 0, q 0, q 0, q 0, bf, bf, bf, q 37, q 1, q 1, q 0, q 0, q 0, q 0, q 0, q 0, bf, bt, bf, q 38, q 1, q 1, q 0, q 0, q 0, q 0, q 0, q 0, bf, bf, bf, q 39, q 1, q 1, q 0, q 0, q 0, q 0, q 0, q 0, bf, bf, bf, q 40, q 1, q 1, q 0, q 0, q 0, q 0, q 0, q 0, bf, bf, bf]
def c22 : List At := [q 1, q 0, q 0, q 0, q 0, q 0, q 0, q 0, q 0, bf, bf, bf, q 2, q 0, q 0, q 0, q 0, q 0, q 0, q 0, q 0, bf, bf, bf, q 3, q 0, q 0, q 0, q 0, q 0, q 0, q 0, q 0, bf, bf, bf, q 4, q 0, q 0, q 0, q 0, q 0, q 0, q 0, q 0, bf, bf, bf, q 5, q 0, q 0, q 0, q 0, q 0, q 0, q 0, q 0, bf, bf, bf, q 6, q 0, q 0, q 0, q 0, q 0, q 0, q 0, q 0, bf, bf, bf, q 7, q 0, q 0, q 0, q 0, q 0, q 0, q 0, q 0, bf, bf, bf, q 8, q 0, q 0, q 0, q 0, q 0, q 0, q 0, q 0, bf, bf, bf, q 9, q 0, q 0, q 0, q 0, q 0, q 0, q 0, q 0, bf, bf, bf, q 10, q 0, q 0, q 0, q 0, q 0, q 0, q 0, q 0, bf, bf, bf, q 11, q 0, q 0, q 0, q 0, q 0, q 0, q 0, q 0, bf, bf, bf, q 12, q 0, q 0, q 0, q 0, q 0, q 0, q 0, q 0, bf, bf, bf, q 13, q 0, q 0, q 0, q 0, q 0, q 0, q 0, q 0, bf, bf, bf, q 14, q 0, q 0, q 0, q 0, q 0, q 0, q 0, q 0, bf, bf, bf, q 15, q 0, q 0, q 0, q 0, q 0, q 0, q 0, q 0, bf, bf, bf, q 16, q 0, q 0, q 0, q 0, q 0, q 0, q 0, q 0, bf, bf, bf, q 17, q 1, q 0, q 0, q 0, q 0, q 0, q 0, q 0, bf, bf, bf, q 18, q 1, q 0, q 0, q 0, q 0, q 0, q 0, q 0, bf, bf, bf, q 19, q 1, q 0, q 0, q 0, q 0, q 0, q 0, q 0, bf, bf, bf, q 20, q 1, q 0, q 0, q 0, q 0, q 0, q 0, q 0, bf, bf, bf, q 21, q 0, q 1, q 0, q 0, q 0, q 0, q 0, q 0, bt, bt, bf, q 22, q 0, q 1, q 0, q 0, q 0, q 0, q 0, q 0, bf, bf, bf, q 23, q 0, q 1, q 0, q 0, q 0, q 0, q 0, q 0, bf, bf, bf, q 24, q 0, q 1, q 0, q 0, q 0, q 0, q 0, q 0, bf, bf, bf, q 25, q 0, q 1, q 0, q 0, q 0, q 0, q 0, q 0, bf, bf, bf, q 26, q 0, q 1, q 0, q 0, q 0, q 0, q 0, q 0, bf, bf, bf, q 27, q 0, q 1, q 0, q 0, q 0, q 0, q 0, q 0, bf, bf, bf, q 28, q 0, q 1, q 0, q 0, q 0, q 0, q 0, q 0, bf, bf, bf, q 29, q 0, q 1, q 0, q 0, q 0, q 0, q 0, q 0, bf, bf, bf, q 30, q 0, q 1, q 0, q 0, q 0, q 0, q 0, q 0, bf, bf, bf, q 31, q 0, q 1, q 0, q 0, q 0, q 0, q 0, q 0, bf, bf, bf, q 32, q 0, q 1, q 0, q 0, q 0, q 0, q 0, q 0, bf, bf, bf, q 33, q 0, q 1, q 0, q 0, q 0, q 0, q 0, q 0, bf, bf, bf, q 34, q 0, q 1, q 0, q 0, q 0, q 0, q 0, q 0, bf, bf, bf, q 35, q 0, q 1, q 0, q 0, q 0, q 0, q 0, q 0, bf, bf, bf, q 36, q 0, q 1, q 0, q 0, q 0, q 0, q 0, q 0, bf, bf, bf, q 37, q 1, q 1, q 0, q 0, q 0, q 0, q 0, q 0, bt, bt, bf, q 38, q 1, q 1, q 0, q 0, q 0, q 0, q 0, q 0, bf, bf, bf, q 39, q 1, q 1, q 0, q 0, q 0, q 0, q 0, q 0, bf, bf, bf, q 40, q 1, q 1, q 0, q 0, q 0, q 0, q 0, q 0, bf, bf, bf]
theorem aj {H : Heap} (hg : GlobOk dp H) {s : SumG} (hs : SumOkG PP cfgN.ok H s) {p : Pc} (h : p.Ok cfgN s 60 500 15 9000) : SumOkG PP cfgN.ok H p.sum := Pc.sum_ok (c := cfgN) qR (fun _ h => eI fP h) hg hs h
end Go.Proofs.YtpcpmblfhlcmaaaGreatDoor
