/- What a call of 'known' hands back. -/
import Derived.Test.YtieaihgbjikggaaGreatKN
import Derived.Test.YtieaihgbjikggaaGreatC20
import Derived.Test.YtieaihgbjikggaaGreatM17
import Derived.Test.YtieaihgbjikggaaGreatC31
namespace Go.Proofs.YtieaihgbjikggaaGreat
open Go Go.Sx
set_option maxRecDepth 100000
set_option maxHeartbeats 1000000
end Go.Proofs.YtieaihgbjikggaaGreat
namespace Go.Proofs.YtieaihgbjikggaaGreat
open Go Go.Sx
set_option maxRecDepth 100000
set_option maxHeartbeats 1000000
end Go.Proofs.YtieaihgbjikggaaGreat
namespace Go.Proofs.YtieaihgbjikggaaGreat
open Go Go.Sx
set_option maxRecDepth 100000
set_option maxHeartbeats 1000000
end Go.Proofs.YtieaihgbjikggaaGreat
namespace Go.Proofs.YtieaihgbjikggaaGreat
open Go Go.Sx
set_option maxRecDepth 100000
set_option maxHeartbeats 1000000
theorem Triple.frozenS {P : Program} {f : FuncId} {args : List Value} {H : Heap} {e : TypeId} {size : Nat} {rows : List (List Value)} (h : Triple P f args H [] fun v _ O' => OSl e size v rows O') :
  Triple P f args H [] fun v H' O' => Sl H' size v rows ∧ O' = [] := by
 refine h.ghost ?_
 intro v H' O' _ hc ho
 obtain ⟨H'', g, k, _⟩ := ho.freeze (X := []) (by simpa using hc)
 exact ⟨H'', [], by simpa using g, k, rfl⟩
theorem gT {α : Type} {p : α → Bool} {l : List α} {i : Nat} (h : i < l.length) : (l.take (i + 1)).filter p = (l.take i).filter p ++ (if p l[i] then [l[i]] else []) := by
 rw [List.take_add_one, List.getElem?_eq_getElem h, List.filter_append]
 congr 1
 simp only [Option.toList_some, List.filter_cons, List.filter_nil]
theorem yb {P : Program} {lab key : Nat} {x0 : Value} {body : (List Value → Heap → Own → Prop) → List Value → Tree} {H : Heap} {O : Own} {Q : Value → Heap → Own → Prop} (n : Nat) (R : Nat → Value → Heap → Own → Prop)
  (h0 : Cons H O → ∃ H1 O1, Ghost H O H1 O1 ∧ R 0 x0 H1 O1) (step : ∀ i x H' O', i ≤ n → Heap.le H H' → R i x H' O' → (body (FJ (IY n R) (MY n) (n - i)) [x, iV i]).den P Q H' O') :
  (Tree.loop lab key [x0, iV 0] body).den P Q H O := by
 refine ⟨IY n R, MY n, fun hc => ?_, ?_⟩
 ·obtain ⟨H1, O1, g, r⟩ := h0 hc
  exact ⟨H1, O1, g, 0, x0, rfl, Nat.zero_le _, r⟩
 ·rintro vs H' O' _ _ hle ⟨i, x, rfl, hi, hr⟩
  exact step i x H' O' hi hle hr
end Go.Proofs.YtieaihgbjikggaaGreat
namespace Go.Proofs.YtieaihgbjikggaaGreat
open Go Go.Sx
set_option maxRecDepth 100000
set_option maxHeartbeats 1000000
end Go.Proofs.YtieaihgbjikggaaGreat
namespace Go.Proofs.YtieaihgbjikggaaGreat
open Go Go.Sx
set_option maxRecDepth 100000
set_option maxHeartbeats 1000000
end Go.Proofs.YtieaihgbjikggaaGreat
namespace Go.Proofs.YtieaihgbjikggaaGreat
open Go Go.Sx
set_option maxRecDepth 100000
set_option maxHeartbeats 1000000
theorem Er {H : Heap} {O : Own} {v : Value} {ks : List Int} (h : KindS H v ks) (c : Int) :
  (∃ x : Bool, (x = true ↔ (c < 0 ∨ c ≥ (ks.length : Int))) ∧ al .len [v] = some (iV ks.length) ∧ x = (decide (c < 0) || decide (c ≥ (ks.length : Int)))) ∧
  (¬ (c < 0 ∨ c ≥ (ks.length : Int)) → ∃ a r, al (.idx 14) [v, iV c] = some (.pointer (some a)) ∧ H.read (.pointer (some a)) 14 = some r ∧ r.length = 14 ∧ Ones r ∧ g r 1 = iV (zC ks c)) := by
 obtain ⟨rows, h1, h2, h3⟩ := h
 refine ⟨⟨_, ?_, ?_, rfl⟩, fun hn => ?_⟩
 ·simp
 ·have := h1.len; rw [this, h2]
 ·have hlt : c.toNat < rows.length := by omega
  obtain ⟨a, k1, k2, k3, k4⟩ := h1.idx (k := .i64) (i := c.toNat) (List.getElem?_eq_getElem hlt)
  have hk : ks[c.toNat]? = some (ks.getD c.toNat 0) := by
   rw [List.getD_eq_getElem?_getD, List.getElem?_eq_getElem (by omega)]; rfl
  have e := h3 c.toNat _ _ (List.getElem?_eq_getElem hlt) hk
  refine ⟨a, _, ?_, k2, k3, k4, ?_⟩
  ·rw [show iV c = iV (c.toNat : Int) by rw [Int.toNat_of_nonneg (by omega)]]; exact k1
  ·rw [e, zC, if_neg hn]
theorem vH {r : List Value} (h : r.length = 14) : ([g r 0, g r 1, g r 2, g r 3, g r 4, g r 5, g r 6, g r 7, g r 8, g r 9, g r 10, g r 11, g r 12, g r 13] : List Value) = r := Eb h
abbrev BD : List Value := [.string ⟨#[]⟩, iV 0, iV 0, iV 0, iV 0, iV 0, iV 0, iV 0, iV 0, iV 0, iV 0, .slice none 0 0, .slice none 0 0, iV 0]
def KW (ks : List Int) (c : Int) (r : Value) (_ : Heap) : Prop := ∃ cells : List Value, r = .agg cells.toArray ∧ cells.length = 14 ∧ Ones cells ∧ g cells 1 = iV (zC ks c)
theorem KJ {H : Heap} {O : Own} {v : Value} {ks : List Int} (h : KindS H v ks) (o : Ob) : Triple PP kw [v, .agg o.row.toArray] H O fun r H' O' => KW ks o.card r H' ∧ O' = O := by
 refine kI (vs := v :: o.row) (by kernel_rfl) ⟨h.one, dY o⟩ ?_
 simp only [iH]
 obtain ⟨⟨x, hx, hlen, ex⟩, hlook⟩ := Er (O := O) h o.card
 refine ai fun r0 => ai fun r1 => ?_
 refine ae ?_
 refine ab _ (aB _ _) ?_
 refine ae (af (af ?_))
 refine ab _ hlen ?_
 refine af (af (ab _ (ef _ _) (af (ab _ (aA _ _) ?_))))
 refine ak (fun hb => ?_) (fun hb => ?_)
 ·have hb : (decide (o.card < 0) || decide (o.card ≥ (ks.length : Int))) = true := hb
  rw [← ex] at hb
  refine ae (ae ?_)
  refine ah ⟨⟨BD, rfl, rfl, ⟨rfl, rfl, rfl, rfl, rfl, rfl, rfl, rfl, rfl, rfl, rfl, rfl, rfl, rfl, trivial⟩, ?_⟩, rfl⟩
  rw [zC, if_pos (hx.1 hb)]; rfl
 ·have hb : (decide (o.card < 0) || decide (o.card ≥ (ks.length : Int))) = false := hb
  rw [← ex] at hb
  obtain ⟨a, r, k1, k2, k3, k4, k5⟩ := hlook (fun e => by rw [hx.2 e] at hb; cases hb)
  refine ae ?_
  refine ab _ k1 (ap (ed k2) k3 k4 ?_)
  refine ae (ae ?_)
  exact ah ⟨⟨r, by rw [← vH k3]; rfl, k3, k4, k5⟩, rfl⟩
theorem Ku {H : Heap} {O : Own} {v : Value} {ks : List Int} (h : KindS H v ks) (o : Ob) : Triple PP eK [v, .agg o.row.toArray] H O fun r H' O' => KW ks o.card r H' ∧ O' = O := by
 refine fC (vs := v :: o.row) (by kernel_rfl) ⟨h.one, dY o⟩ ?_
 simp only [dz]
 obtain ⟨⟨x, hx, hlen, ex⟩, hlook⟩ := Er (O := O) h o.card
 refine ai fun r0 => ai fun r1 => ?_
 refine ae ?_
 refine ab _ (aB _ _) ?_
 refine ae (af (af ?_))
 refine ab _ hlen ?_
 refine af (af (ab _ (ef _ _) (af (ab _ (aA _ _) ?_))))
 refine ak (fun hb => ?_) (fun hb => ?_)
 ·have hb : (decide (o.card < 0) || decide (o.card ≥ (ks.length : Int))) = true := hb
  rw [← ex] at hb
  refine ae (ae ?_)
  refine ah ⟨⟨BD, rfl, rfl, ⟨rfl, rfl, rfl, rfl, rfl, rfl, rfl, rfl, rfl, rfl, rfl, rfl, rfl, rfl, trivial⟩, ?_⟩, rfl⟩
  rw [zC, if_pos (hx.1 hb)]; rfl
 ·have hb : (decide (o.card < 0) || decide (o.card ≥ (ks.length : Int))) = false := hb
  rw [← ex] at hb
  obtain ⟨a, r, k1, k2, k3, k4, k5⟩ := hlook (fun e => by rw [hx.2 e] at hb; cases hb)
  refine ae ?_
  refine ab _ k1 (ap (ed k2) k3 k4 ?_)
  refine ae (ae ?_)
  exact ah ⟨⟨r, by rw [← vH k3]; rfl, k3, k4, k5⟩, rfl⟩
theorem Fx {H : Heap} {O : Own} {v : Value} {ks : List Int} (h : KindS H v ks) (o : Ob) : RetO PP nn [v, .agg o.row.toArray] H O (.bool (fZ ks o)) := by
 refine rV (vs := v :: o.row) (by kernel_rfl) ⟨h.one, dY o⟩ ?_
 simp only [ji]
 refine ai fun r0 => ?_
 refine ae ?_
 refine ab _ (aF _ _) (ak (fun hb => ah ⟨?_, rfl⟩) (fun hb => ?_))
 ·have hb : (o.card == -1) = true := hb
  rw [fZ, hb]; rfl
 ·have hb : (o.card == -1) = false := hb
  refine ae ?_
  refine kY (KJ h o) ?_
  rintro _ H1 ⟨cells, rfl, k1, k2, k3⟩ l1
  refine ⟨cells, by simp [Shp.open, k1], k2, ?_⟩
  dsimp only
  rw [k3]
  refine ab _ (aF _ _) ?_
  refine ah ⟨?_, rfl⟩
  rw [fZ, hb]; rfl
theorem ze {H : Heap} {O : Own} {v : Value} {ks : List Int} (h : KindS H v ks) (o : Ob) : RetO PP iN [v, .agg o.row.toArray] H O (.bool (fZ ks o)) := by
 refine mb (vs := v :: o.row) (by kernel_rfl) ⟨h.one, dY o⟩ ?_
 simp only [eG]
 refine ai fun r0 => ?_
 refine ae ?_
 refine ab _ (aF _ _) (ak (fun hb => ah ⟨?_, rfl⟩) (fun hb => ?_))
 ·have hb : (o.card == -1) = true := hb
  rw [fZ, hb]; rfl
 ·have hb : (o.card == -1) = false := hb
  refine ae ?_
  refine kY (Ku h o) ?_
  rintro _ H1 ⟨cells, rfl, k1, k2, k3⟩ l1
  refine ⟨cells, by simp [Shp.open, k1], k2, ?_⟩
  dsimp only
  rw [k3]
  refine ab _ (aF _ _) ?_
  refine ah ⟨?_, rfl⟩
  rw [fZ, hb]; rfl
def vJ (ks : List Int) (b : Bd) (p : Int) (o : Ob) : Bool := o.owner == p && (fZ ks o && (dt b p).field.contains o.id)
def iD (ks : List Int) (b : Bd) (p : Int) : List Int := if (aq p 0 1 && aw b) = true then (b.objs.filter (vJ ks b p)).map (·.id) else []
theorem CN {H : Heap} {cv : Value} {ks : List Int} (hk : KindS H cv ks) {v : d8} {b : Bd} (h : BdS H v b) (p : Int) :
  Triple PP jk [cv, .agg (ay v b).toArray, iV p] H [] fun r _ O' => OSl be 1 r (aO (iD ks b p)) O' := by
 refine rW (vs := cv :: (ay v b ++ [iV p])) (by kernel_rfl) ⟨hk.one, aP (au (h.r [])) ⟨rfl, trivial⟩⟩ ?_
 simp only [jj]
 refine ai fun r0 => ?_
 refine aj (dd p 0 1 H []) rfl ⟨rfl, trivial⟩ fun H1 l1 => ab _ (az _) (ak (fun hb => ?_) (fun hb => ?_))
 ·have e : iD ks b p = [] := by rw [iD, if_neg]; rw [show aq p 0 1 = false from yC hb]; simp
  rw [e]
  exact ah (OSl.nil _ _)
 have hw : aq p 0 1 = true := rX hb
 replace h := h.le l1
 replace hk := hk.le l1
 refine ae ?_
 refine aj (bg (h.r [])) rfl ⟨rfl, trivial⟩ fun H2 l2 => ab _ (az _) (ak (fun hb => ?_) (fun hb => ?_))
 ·have e : iD ks b p = [] := by rw [iD, if_neg]; rw [show aw b = false from yC hb]; simp
  rw [e]
  exact ah (OSl.nil _ _)
 have hv : aw b = true := rX hb
 have hobl := pm hv
 have e : iD ks b p = (b.objs.filter (vJ ks b p)).map (·.id) := by rw [iD, if_pos (by rw [hw, hv]; rfl)]
 rw [e]
 clear hb e
 replace h := h.le l2
 replace hk := hk.le l2
 have lo := h.objs.len
 rw [List.length_map] at lo
 have hp : p = 0 ∨ p = 1 := by simp only [aq, decide_eq_true_eq] at hw; omega
 refine ae ?_
 refine ab _ lo ?_
 refine dq b.objs.length (fun i x H' O' => Heap.le H2 H' ∧ OSl be 1 x (aO (((b.objs.take i).filter (vJ ks b p)).map (·.id))) O') ⟨Heap.le_refl _, OSl.nil _ _⟩ ?_
 rintro i x H' O' hi - ⟨hle, hx⟩
 refine ab _ (aB _ _) (ak (fun hb => ?_) (fun hb => ?_))
 ·have hlt : i < b.objs.length := by simpa using hb
  obtain ⟨a, i1, i2, i3, i4⟩ := (h.objs.le hle).idx (k := .i64) (i := i) (r := Ob.row b.objs[i]) (by simp [hlt])
  have hft := gT (p := vJ ks b p) hlt
  have hnot : vJ ks b p b.objs[i] = false → ∀ H3, Heap.le H' H3 → (Heap.le H2 H3 ∧ OSl be 1 x (aO (((b.objs.take (i + 1)).filter (vJ ks b p)).map (·.id))) O') := fun hn H3 l3 => by
   rw [hft, if_neg (by rw [hn]; simp), List.append_nil]; exact ⟨Heap.le_trans hle l3, hx⟩
  refine ab _ i1 (jl i2 i3 i4 (ai fun r1 => ?_))
  refine ae (ae ?_)
  refine ab _ (aF _ _) ?_
  refine ak (fun h1 => ?_) (fun h1 => ?_)
  ·have h1 : (b.objs[i].owner == p) = true := h1
   refine ae ?_
   refine aj (Fx (hk.le hle) b.objs[i]) rfl ⟨rfl, trivial⟩ fun H3 l3 => ak (fun h2 => ?_) (fun h2 => ?_)
   ·have lz := Heap.le_trans hle l3
    rcases hp with rfl | rfl
    ·refine ⟨.i64, 0, rfl, fun _ => ?_, fun e => absurd rfl e⟩
     refine ae (ae ?_)
     refine aj (gK (((h.s0.field).le lz).rsl O') b.objs[i].id) rfl ⟨rfl, trivial⟩ fun H4 l4 => ak (fun h3 => ?_) (fun h3 => ?_)
     ·have hcr : vJ ks b 0 b.objs[i] = true := by rw [vJ, h1, h2]; exact h3
      have hlen : ((b.objs.take i).filter (vJ ks b 0)).length ≤ 1000000 := Nat.le_trans (List.length_filter_le _ _) (by rw [List.length_take]; omega)
      refine ae ?_
      refine ai fun r2 => ?_
      refine aI (rows := aO (((b.objs.take i).filter (vJ ks b 0)).map fun o : Ob => o.id)) (news := [[iV b.objs[i].id]]) (O1 := O') (O2 := []) (e := be) (size := 1) (bytes := 8) (by kernel_rfl) (by simp) hx (fun Hf _ hf => Sl.block1 (hf _ List.mem_cons_self) rfl ⟨rfl, trivial⟩) (by simp [aO]; omega) (by simp [aO]; omega) ?_
      intro v' A' H6 l6 hA'
      refine ab _ (ax (by omega)) (aN (by simp [Eqs]) hlt ⟨Heap.le_trans lz (Heap.le_trans l4 l6), ?_⟩)
      rw [List.append_nil, hft, if_pos hcr, List.map_append, aO, List.map_append]; exact hA'
     ·have hcr : vJ ks b 0 b.objs[i] = false := by rw [vJ, h1, h2]; exact h3
      exact ab _ (ax (by omega)) (aN (by simp [Eqs]) hlt (hnot hcr _ (Heap.le_trans l3 l4)))
    ·refine ⟨.i64, 1, rfl, fun e => absurd e (by omega), fun _ => ⟨.i64, 1, rfl, fun _ => ?_, fun e => absurd rfl e⟩⟩
     refine ae (ae ?_)
     refine aj (gK (((h.s1.field).le lz).rsl O') b.objs[i].id) rfl ⟨rfl, trivial⟩ fun H4 l4 => ak (fun h3 => ?_) (fun h3 => ?_)
     ·have hcr : vJ ks b 1 b.objs[i] = true := by rw [vJ, h1, h2]; exact h3
      have hlen : ((b.objs.take i).filter (vJ ks b 1)).length ≤ 1000000 := Nat.le_trans (List.length_filter_le _ _) (by rw [List.length_take]; omega)
      refine ae ?_
      refine ai fun r2 => ?_
      refine aI (rows := aO (((b.objs.take i).filter (vJ ks b 1)).map fun o : Ob => o.id)) (news := [[iV b.objs[i].id]]) (O1 := O') (O2 := []) (e := be) (size := 1) (bytes := 8) (by kernel_rfl) (by simp) hx (fun Hf _ hf => Sl.block1 (hf _ List.mem_cons_self) rfl ⟨rfl, trivial⟩) (by simp [aO]; omega) (by simp [aO]; omega) ?_
      intro v' A' H6 l6 hA'
      refine ab _ (ax (by omega)) (aN (by simp [Eqs]) hlt ⟨Heap.le_trans lz (Heap.le_trans l4 l6), ?_⟩)
      rw [List.append_nil, hft, if_pos hcr, List.map_append, aO, List.map_append]; exact hA'
     ·have hcr : vJ ks b 1 b.objs[i] = false := by rw [vJ, h1, h2]; exact h3
      exact ab _ (ax (by omega)) (aN (by simp [Eqs]) hlt (hnot hcr _ (Heap.le_trans l3 l4)))
   ·have hcr : vJ ks b p b.objs[i] = false := by rw [vJ, h1, h2]; rfl
    exact ab _ (ax (by omega)) (aN (by simp [Eqs]) hlt (hnot hcr _ l3))
  ·have h1 : (b.objs[i].owner == p) = false := h1
   have hcr : vJ ks b p b.objs[i] = false := by rw [vJ, h1]; rfl
   exact ab _ (ax (by omega)) (aN (by simp [Eqs]) hlt (hnot hcr _ (Heap.le_refl _)))
 ·have hge : b.objs.length ≤ i := by simpa using hb
  rw [List.take_of_length_le hge] at hx
  exact ah hx
theorem DP {H : Heap} {cv : Value} {ks : List Int} (hk : KindS H cv ks) {v : d8} {b : Bd} (h : BdS H v b) (p : Int) :
  Triple PP jk [cv, .agg (ay v b).toArray, iV p] H [] fun r H' O' => Sl H' 1 r (aO (iD ks b p)) ∧ O' = [] := Triple.frozenS (CN hk h p)
end Go.Proofs.YtieaihgbjikggaaGreat
namespace Go.Proofs.YtieaihgbjikggaaGreat
open Go Go.Sx
set_option maxRecDepth 100000
set_option maxHeartbeats 1000000
theorem ve {P : Program} {lab n i : Nat} {R : Nat → Value → Heap → Own → Prop} {x : Value} {eqs : List (List Value × List Value)} {H : Heap} {O : Own} {Q : Value → Heap → Own → Prop} (he : Eqs eqs) (hi : i < n) (hr : Cons H O → ∃ H3 O3, Ghost H O H3 O3 ∧ R (i + 1) x H3 O3) :
  (Tree.cont lab (FJ (IY n R) (MY n) (n - i)) [x, iV ((i + 1 : Nat) : Int)] eqs).den P Q H O := by
 refine ⟨he, fun hc => ?_⟩
 obtain ⟨H3, O3, g, r⟩ := hr hc
 refine ⟨H3, O3, g, ⟨i + 1, x, rfl, hi, r⟩, ?_⟩
 show n - ((i + 1 : Nat) : Int).toNat < n - i
 simp; omega
theorem BO {l : List Int} {i : Nat} (h : i < l.length) : lZ (l.take (i + 1)) = Du l[i] (lZ (l.take i)) := by
 rw [List.take_add_one, List.getElem?_eq_getElem h, lZ, Option.toList_some, List.foldl_append]; rfl
theorem AA {H : Heap} {v : Value} {l : List Int} (h : Sl H 1 v (aO l)) (hl : l.length ≤ 4000000) : Triple PP jz [v] H [] fun r H' O' => Sl H' 1 r (aO (lZ l)) ∧ O' = [] := by
 refine nz (vs := [v]) (by kernel_rfl) ⟨h.one, trivial⟩ ?_
 simp only [fL]
 have hlen : al .len [v] = some (iV l.length) := by have := h.len; rwa [aO, List.length_map] at this
 refine dq l.length (fun i x H' O' => O' = [] ∧ Heap.le H H' ∧ Sl H' 1 x (aO (lZ (l.take i)))) ⟨rfl, Heap.le_refl _, Sl.nil H 1⟩ ?_
 rintro i x H' O' hi - ⟨rfl, hle, hx⟩
 refine ab _ hlen (ab _ (aB _ _) (ak (fun hb => ?_) (fun hb => ?_)))
 ·have hlt : i < l.length := by simpa using hb
  generalize hout : lZ (l.take i) = out at hx
  have hol : out.length ≤ 4000000 := by rw [← hout, sN, List.length_take]; omega
  have xlen : al .len [x] = some (iV out.length) := by have := hx.len; rwa [aO, List.length_map] at this
  obtain ⟨a, h1, h2, h3, h4⟩ := (h.le hle).idx (k := .i64) (i := i) (r := [iV l[i]]) (by simp [aO, hlt])
  refine aR out.length (fun k H2 O2 => O2 = [] ∧ Heap.le H' H2 ∧ ∀ (j : Nat) (y : Int), j < k → out[j]? = some y → decide (y < l[i]) = true) ⟨rfl, Heap.le_refl _, fun j y hj => absurd hj (Nat.not_lt_zero j)⟩ ?_
  rintro k H2 O2 hk - ⟨rfl, hle2, hall⟩
  refine ab _ xlen (ab _ (aB _ _) ?_)
  refine af (af ?_)
  have hfin : (∀ y, out[k]? = some y → decide (y < l[i]) = false) → Du l[i] out = out.take k ++ (l[i] :: out.drop k) := fun hno => by
   obtain ⟨w1, w2⟩ := D3 hk hall hno
   rw [Du, w1, w2]
  rcases Nat.lt_or_ge k out.length with hkl | hkl
  ·obtain ⟨a2, k1, k2, k3, k4⟩ := (hx.le hle2).idx (k := .i64) (i := k) (r := [iV out[k]]) (by simp [aO, hkl])
   refine ⟨.pointer (some a2), fun _ => k1, .inr rfl, ?_⟩
   refine af ?_
   refine ⟨[iV out[k]], rfl, ⟨rfl, trivial⟩, fun _ => .inl k2, ?_⟩
   refine af (af ?_)
   refine ⟨.pointer (some a), fun _ => h1, .inr rfl, ?_⟩
   refine af ?_
   refine ⟨[iV l[i]], rfl, ⟨rfl, trivial⟩, fun _ => .inl (hle2.read h2), ?_⟩
   refine af (af ?_)
   refine ab _ (aB _ _) ?_
   refine af ?_
   refine ab _ (bE _ _) ?_
   have hkd : decide ((k : Int) < (out.length : Int)) = true := by simp [hkl]
   rw [hkd, Bool.true_and]
   refine ak (fun hc => ?_) (fun hc => ?_)
   ·refine ab _ (ax (by omega)) (aK (by simp [Eqs]) hkl ⟨rfl, hle2, fun j y hj e => ?_⟩)
    rcases Nat.lt_or_ge j k with hjk | hjk
    ·exact hall j y hjk e
    ·have : j = k := by omega
     subst this
     rw [List.getElem?_eq_getElem hkl] at e
     obtain rfl := Option.some.inj e
     exact hc
   ·have hins := hfin fun y e => by
     rw [List.getElem?_eq_getElem hkl] at e
     obtain rfl := Option.some.inj e
     exact hc
    refine ab _ h1 (jl (hle2.read h2) h3 h4 ?_)
    obtain ⟨u1, e1, s1⟩ := (hx.le hle2).from (i := k) (by simp [aO]; omega)
    obtain ⟨u2, e2, s2⟩ := (hx.le hle2).upto (i := k) (by simp [aO]; omega)
    refine ab _ e1 (ai fun r0 => ?_)
    refine kZ (ad := ⟨r0, 0, none⟩) (rows := [[iV l[i]]]) (news := (aO out).drop k) (size := 1) (e := be) (by kernel_rfl) (fun Hf _ hf => Sl.block1 (hf _ List.mem_cons_self) rfl ⟨rfl, trivial⟩) s1 (by rw [show jh PP be = 8 by kernel_rfl]; simp [aO]; omega) (by simp [aO]; omega) fun v1 H3 l3 hv1 => ?_
    refine ab _ e2 ?_
    refine DX (e := be) (size := 1) (bytes := 8) (by kernel_rfl) (s2.le l3) (by simp [aO]; omega) (by simp [aO]; omega) fun xa Oa H4 lA pa => ?_
    refine aI (rows := (aO out).take k) (news := [[iV l[i]]] ++ (aO out).drop k) (O1 := Oa) (O2 := []) (e := be) (size := 1) (bytes := 8) (by kernel_rfl) (by simp) pa (fun Hf lf _ => (hv1.le lA).le lf) (by simp [aO]; omega) (by simp [aO]; omega) ?_
    intro v' A' H6 l6 hA'
    refine ab _ (ax (by omega)) (ve (by simp [Eqs]) hlt fun hc => ?_)
    obtain ⟨H9, g9, kz, l9⟩ := hA'.freeze (X := []) (hc.perm (by simp))
    refine ⟨H9, [], (Ghost.perm (by simp)).trans g9, rfl, Heap.le_trans hle (Heap.le_trans hle2 (Heap.le_trans l3 (Heap.le_trans lA (Heap.le_trans l6 l9)))), ?_⟩
    have hrows : aO (lZ (l.take (i + 1))) = (aO out).take k ++ ([[iV l[i]]] ++ (aO out).drop k) := by
     rw [BO hlt, hout, hins, aO, aO, List.map_append, List.map_cons, List.map_take, List.map_drop]; rfl
    rw [hrows]; exact kz
  ·have hkd : decide ((k : Int) < (out.length : Int)) = false := by simp; omega
   have hoff : ∀ {P : Prop}, On [(Value.bool (decide ((k : Int) < (out.length : Int))), true)] → P := fun ho => by
    have := ho.1
    rw [hkd] at this
    cases this
   refine ⟨.pointer (some a), fun ho => hoff ho, .inr rfl, ?_⟩
   refine af ?_
   refine ⟨[iV 0], rfl, ⟨rfl, trivial⟩, fun ho => hoff ho, ?_⟩
   refine af (af ?_)
   refine ⟨.pointer (some a), fun _ => h1, .inr rfl, ?_⟩
   refine af ?_
   refine ⟨[iV l[i]], rfl, ⟨rfl, trivial⟩, fun _ => .inl (hle2.read h2), ?_⟩
   refine af (af ?_)
   refine ab _ (aB _ _) ?_
   refine af ?_
   refine ab _ (bE _ _) ?_
   rw [hkd, Bool.false_and]
   refine ak (fun hc => by cases hc) (fun hc => ?_)
   have hins := hfin fun y e => by
    have := (List.getElem?_eq_some_iff.1 e).1
    omega
   refine ab _ h1 (jl (hle2.read h2) h3 h4 ?_)
   obtain ⟨u1, e1, s1⟩ := (hx.le hle2).from (i := k) (by simp [aO]; omega)
   obtain ⟨u2, e2, s2⟩ := (hx.le hle2).upto (i := k) (by simp [aO]; omega)
   refine ab _ e1 (ai fun r0 => ?_)
   refine kZ (ad := ⟨r0, 0, none⟩) (rows := [[iV l[i]]]) (news := (aO out).drop k) (size := 1) (e := be) (by kernel_rfl) (fun Hf _ hf => Sl.block1 (hf _ List.mem_cons_self) rfl ⟨rfl, trivial⟩) s1 (by rw [show jh PP be = 8 by kernel_rfl]; simp [aO]; omega) (by simp [aO]; omega) fun v1 H3 l3 hv1 => ?_
   refine ab _ e2 ?_
   refine DX (e := be) (size := 1) (bytes := 8) (by kernel_rfl) (s2.le l3) (by simp [aO]; omega) (by simp [aO]; omega) fun xa Oa H4 lA pa => ?_
   refine aI (rows := (aO out).take k) (news := [[iV l[i]]] ++ (aO out).drop k) (O1 := Oa) (O2 := []) (e := be) (size := 1) (bytes := 8) (by kernel_rfl) (by simp) pa (fun Hf lf _ => (hv1.le lA).le lf) (by simp [aO]; omega) (by simp [aO]; omega) ?_
   intro v' A' H6 l6 hA'
   refine ab _ (ax (by omega)) (ve (by simp [Eqs]) hlt fun hc => ?_)
   obtain ⟨H9, g9, kz, l9⟩ := hA'.freeze (X := []) (hc.perm (by simp))
   refine ⟨H9, [], (Ghost.perm (by simp)).trans g9, rfl, Heap.le_trans hle (Heap.le_trans hle2 (Heap.le_trans l3 (Heap.le_trans lA (Heap.le_trans l6 l9)))), ?_⟩
   have hrows : aO (lZ (l.take (i + 1))) = (aO out).take k ++ ([[iV l[i]]] ++ (aO out).drop k) := by
    rw [BO hlt, hout, hins, aO, aO, List.map_append, List.map_cons, List.map_take, List.map_drop]; rfl
   rw [hrows]; exact kz
 ·have hge : l.length ≤ i := by simpa using hb
  rw [List.take_of_length_le hge] at hx
  exact ah ⟨hx, rfl⟩
def Ha (ks : List Int) (b : Bd) (p : Int) : List Int := lZ ((dt b p).field.filter fun id => fZ ks (b.objs.getD (gI b id).toNat zO))
theorem sr {P : Program} {f : FuncId} {args : List Value} {H : Heap} {O : Own} {e : TypeId} {size : Nat} {x : Value} {rows : List (List Value)} {R : Value → Heap → Own → Prop} {shp : Shp} {K : List Value → List (List Value) → Heap → Own → Prop}
  (hx : OSl e size x rows O) (h : ∀ Hf, Sl Hf size x rows → Triple P f args Hf [] R) (hk : ∀ v H' , R v H' [] → Heap.le H H' → ∃ vs, shp.open v = some vs ∧ Ones vs ∧ K vs [] H' []) (hR : ∀ v H' O', R v H' O' → O' = [] := by rintro _ _ _ ⟨_, rfl⟩; rfl) :
  il (fun H1 O1 R => Triple P f args H1 O1 R) false [] [] shp K H O := by
 intro hc
 obtain ⟨Hf, g, hs, hl⟩ := hx.freeze (X := []) (by simpa using hc)
 refine ⟨Hf, [], [], R, (by rw [List.append_nil] at g; exact g : Ghost H O Hf []), h Hf hs, fun v H' O' hr hle => ?_⟩
 obtain rfl := hR v H' O' hr
 obtain ⟨vs, h1, h2, h3⟩ := hk v H' hr (Heap.le_trans hl hle)
 exact ⟨vs, [], [], h1, h2, trivial, rfl, h3⟩
theorem xc {H : Heap} {cv : Value} {ks : List Int} (hk : KindS H cv ks) {v : d8} {b : Bd} (h : BdS H v b) (hB : bdB b) (p : Int) (hp : p = 0 ∨ p = 1) (hthere : ∀ q, p = q → ∀ id ∈ (dt b q).field, ¬ gI b id < 0) :
  Triple PP ij [cv, .agg (ay v b).toArray, iV p] H [] fun r H' O' => Sl H' 1 r (aO (Ha ks b p)) ∧ O' = [] := by
 refine lC (vs := cv :: (ay v b ++ [iV p])) (by kernel_rfl) ⟨hk.one, aP (au (h.r [])) ⟨rfl, trivial⟩⟩ ?_
 simp only [d7]
 refine ai fun r0 => ?_
 rcases hp with rfl | rfl
 ·refine ⟨.i64, 0, rfl, fun _ => ?_, fun e => absurd rfl e⟩
  have hfl : al .len [v.f0] = some (iV b.s0.field.length) := by have := h.s0.field.len; rwa [aO, List.length_map] at this
  have hbl : b.s0.field.length ≤ 1000000 := by obtain ⟨_, ⟨_, _, x1, _⟩, ⟨_, _, x2, _⟩, _⟩ := hB; omega
  refine ae ?_
  refine ab _ hfl ?_
  refine yb b.s0.field.length (fun i x H' O' => Heap.le H H' ∧ OSl be 1 x (aO ((b.s0.field.take i).filter fun id => fZ ks (b.objs.getD (gI b id).toNat zO))) O') (fun _ => ⟨H, [], Ghost.refl _ _, Heap.le_refl _, OSl.nil _ _⟩) ?_
  rintro i x H' O' hi - ⟨hle, hx⟩
  refine ab _ (aB _ _) (ak (fun hb => ?_) (fun hb => ?_))
  ·have hlt : i < b.s0.field.length := by simpa using hb
   obtain ⟨a, i1, i2, i3, i4⟩ := (h.s0.field.le hle).idx (k := .i64) (i := i) (r := [iV b.s0.field[i]]) (by simp [aO, hlt])
   have hft := gT (p := fun id => fZ ks (b.objs.getD (gI b id).toNat zO)) hlt
   obtain ⟨k, ob, e1, e2, e3⟩ := xL (hthere 0 rfl b.s0.field[i] (List.getElem_mem hlt))
   have hob : b.objs.getD (gI b b.s0.field[i]).toNat zO = ob := by rw [e3, Int.toNat_natCast, List.getD_eq_getElem?_getD, e1]; rfl
   rw [hob] at hft
   refine ab _ i1 (jl i2 i3 i4 ?_)
   refine ae (ae ?_)
   refine aj (w9 ((h.le hle).r O') b.s0.field[i]) rfl ⟨rfl, trivial⟩ fun H2 l2 => ?_
   rw [e3]
   have lz := Heap.le_trans hle l2
   obtain ⟨a2, k1, k2, k3, k4⟩ := (h.objs.le lz).idx (k := .i64) (i := k) (r := Ob.row ob) (by rw [List.getElem?_map, e1]; rfl)
   refine ab _ k1 (jl k2 k3 k4 ?_)
   refine aj (ze (hk.le lz) ob) rfl ⟨rfl, trivial⟩ fun H3 l3 => ak (fun hc => ?_) (fun hc => ?_)
   ·have hc : fZ ks ob = true := hc
    have hlen : ((b.s0.field.take i).filter fun id => fZ ks (b.objs.getD (gI b id).toNat zO)).length ≤ 1000000 := Nat.le_trans (List.length_filter_le _ _) (by rw [List.length_take]; omega)
    refine ai fun r2 => ?_
    refine aI (rows := aO ((b.s0.field.take i).filter fun id => fZ ks (b.objs.getD (gI b id).toNat zO))) (news := [[iV b.s0.field[i]]]) (O1 := O') (O2 := []) (e := be) (size := 1) (bytes := 8) (by kernel_rfl) (by simp) hx (fun Hf _ hf => Sl.block1 (hf _ List.mem_cons_self) rfl ⟨rfl, trivial⟩) (by rw [aO, List.length_map, List.length_singleton]; omega) (by rw [aO, List.length_map, List.length_singleton]; omega) ?_
    intro v' A' H6 l6 hA'
    refine ab _ (ax (by omega)) (aN (by simp [Eqs]) hlt ⟨Heap.le_trans lz (Heap.le_trans l3 l6), ?_⟩)
    rw [List.append_nil, hft, if_pos hc, aO, List.map_append]; exact hA'
   ·have hc : fZ ks ob = false := hc
    refine ab _ (ax (by omega)) (aN (by simp [Eqs]) hlt ⟨Heap.le_trans lz l3, ?_⟩)
    rw [hft, if_neg (by rw [hc]; simp), List.append_nil]; exact hx
  ·have hge : b.s0.field.length ≤ i := by simpa using hb
   rw [List.take_of_length_le hge] at hx
   have hlen : (b.s0.field.filter fun id => fZ ks (b.objs.getD (gI b id).toNat zO)).length ≤ 1000000 := Nat.le_trans (List.length_filter_le _ _) hbl
   refine sr hx (fun Hf hs => AA hs (by omega)) ?_
   rintro r H2 ⟨hr, -⟩ l2
   refine ⟨[r], rfl, ⟨hr.one, trivial⟩, ?_⟩
   exact ah ⟨hr, rfl⟩
 ·refine ⟨.i64, 1, rfl, fun e => absurd e (by omega), fun _ => ⟨.i64, 1, rfl, fun _ => ?_, fun e => absurd rfl e⟩⟩
  have hfl : al .len [v.f1] = some (iV b.s1.field.length) := by have := h.s1.field.len; rwa [aO, List.length_map] at this
  have hbl : b.s1.field.length ≤ 1000000 := by obtain ⟨_, ⟨_, _, x1, _⟩, ⟨_, _, x2, _⟩, _⟩ := hB; omega
  refine ae ?_
  refine ab _ hfl ?_
  refine yb b.s1.field.length (fun i x H' O' => Heap.le H H' ∧ OSl be 1 x (aO ((b.s1.field.take i).filter fun id => fZ ks (b.objs.getD (gI b id).toNat zO))) O') (fun _ => ⟨H, [], Ghost.refl _ _, Heap.le_refl _, OSl.nil _ _⟩) ?_
  rintro i x H' O' hi - ⟨hle, hx⟩
  refine ab _ (aB _ _) (ak (fun hb => ?_) (fun hb => ?_))
  ·have hlt : i < b.s1.field.length := by simpa using hb
   obtain ⟨a, i1, i2, i3, i4⟩ := (h.s1.field.le hle).idx (k := .i64) (i := i) (r := [iV b.s1.field[i]]) (by simp [aO, hlt])
   have hft := gT (p := fun id => fZ ks (b.objs.getD (gI b id).toNat zO)) hlt
   obtain ⟨k, ob, e1, e2, e3⟩ := xL (hthere 1 rfl b.s1.field[i] (List.getElem_mem hlt))
   have hob : b.objs.getD (gI b b.s1.field[i]).toNat zO = ob := by rw [e3, Int.toNat_natCast, List.getD_eq_getElem?_getD, e1]; rfl
   rw [hob] at hft
   refine ab _ i1 (jl i2 i3 i4 ?_)
   refine ae (ae ?_)
   refine aj (w9 ((h.le hle).r O') b.s1.field[i]) rfl ⟨rfl, trivial⟩ fun H2 l2 => ?_
   rw [e3]
   have lz := Heap.le_trans hle l2
   obtain ⟨a2, k1, k2, k3, k4⟩ := (h.objs.le lz).idx (k := .i64) (i := k) (r := Ob.row ob) (by rw [List.getElem?_map, e1]; rfl)
   refine ab _ k1 (jl k2 k3 k4 ?_)
   refine aj (ze (hk.le lz) ob) rfl ⟨rfl, trivial⟩ fun H3 l3 => ak (fun hc => ?_) (fun hc => ?_)
   ·have hc : fZ ks ob = true := hc
    have hlen : ((b.s1.field.take i).filter fun id => fZ ks (b.objs.getD (gI b id).toNat zO)).length ≤ 1000000 := Nat.le_trans (List.length_filter_le _ _) (by rw [List.length_take]; omega)
    refine ai fun r2 => ?_
    refine aI (rows := aO ((b.s1.field.take i).filter fun id => fZ ks (b.objs.getD (gI b id).toNat zO))) (news := [[iV b.s1.field[i]]]) (O1 := O') (O2 := []) (e := be) (size := 1) (bytes := 8) (by kernel_rfl) (by simp) hx (fun Hf _ hf => Sl.block1 (hf _ List.mem_cons_self) rfl ⟨rfl, trivial⟩) (by rw [aO, List.length_map, List.length_singleton]; omega) (by rw [aO, List.length_map, List.length_singleton]; omega) ?_
    intro v' A' H6 l6 hA'
    refine ab _ (ax (by omega)) (aN (by simp [Eqs]) hlt ⟨Heap.le_trans lz (Heap.le_trans l3 l6), ?_⟩)
    rw [List.append_nil, hft, if_pos hc, aO, List.map_append]; exact hA'
   ·have hc : fZ ks ob = false := hc
    refine ab _ (ax (by omega)) (aN (by simp [Eqs]) hlt ⟨Heap.le_trans lz l3, ?_⟩)
    rw [hft, if_neg (by rw [hc]; simp), List.append_nil]; exact hx
  ·have hge : b.s1.field.length ≤ i := by simpa using hb
   rw [List.take_of_length_le hge] at hx
   have hlen : (b.s1.field.filter fun id => fZ ks (b.objs.getD (gI b id).toNat zO)).length ≤ 1000000 := Nat.le_trans (List.length_filter_le _ _) hbl
   refine sr hx (fun Hf hs => AA hs (by omega)) ?_
   rintro r H2 ⟨hr, -⟩ l2
   refine ⟨[r], rfl, ⟨hr.one, trivial⟩, ?_⟩
   exact ah ⟨hr, rfl⟩
theorem sj {b : Bd} (h : aw b = true) {p : Int} (hp : p = 0 ∨ p = 1) {id : Int} (hid : id ∈ (dt b p).field) : ∃ (k : Nat) (o : Ob), b.objs[k]? = some o ∧ o.id = id ∧ o.owner = p ∧ gI b id = k := by
 have hpl := (aM h).1
 have hm : (id, p) ∈ aH b := by
  rcases hp with rfl | rfl
  ·have hid : id ∈ b.s0.field := hid
   simp [aH, bF, hid]
  ·have hid : id ∈ b.s1.field := hid
   simp [aH, bF, hid]
 obtain ⟨k, o, e1, e2, e3⟩ := GP hpl hm
 obtain ⟨_, _, v3, _⟩ := co hpl e1
 exact ⟨k, o, e1, e2, e3, by rw [← e2]; exact v3⟩
theorem qa : ∀ {l : List Ob} {prev : Option Int}, AC prev l = true → (l.map (·.id)).Pairwise (· < ·)
 | [], _, _ => List.Pairwise.nil
 | a :: l, prev, h => by
  simp only [AC, Bool.and_eq_true] at h
  rw [List.map_cons, List.pairwise_cons]
  refine ⟨fun x hx => ?_, qa h.2⟩
  obtain ⟨o, ho, rfl⟩ := List.mem_map.1 hx
  exact (ir h.2).1 o ho _ rfl
theorem EB (ks : List Int) {b : Bd} (h : aw b = true) {p : Int} (hp : p = 0 ∨ p = 1) : Ha ks b p = iD ks b p := by
 have hw : aq p 0 1 = true := by simp only [aq, decide_eq_true_eq]; omega
 rw [iD, if_pos (by rw [hw, h]; rfl), Ha]
 obtain ⟨p1, _, _⟩ := ej (aM h).1
 have hfn : (dt b p).field.Nodup := by
  obtain ⟨a, c⟩ := uU (aM h).1
  rcases hp with rfl | rfl
  ·exact a
  ·exact c
 refine tT (uR (hfn.filter _)) ?_ fun x => ?_
 ·exact (qa p1).sublist ((List.filter_sublist (l := b.objs)).map _)
 ·rw [(qU _).mem_iff, List.mem_filter, List.mem_map]
  constructor
  ·rintro ⟨hx, hc⟩
   obtain ⟨k, o, e1, e2, e3, e4⟩ := sj h hp hx
   have hob : b.objs.getD (gI b x).toNat zO = o := by rw [e4, Int.toNat_natCast, List.getD_eq_getElem?_getD, e1]; rfl
   rw [hob] at hc
   refine ⟨o, List.mem_filter.2 ⟨List.mem_of_getElem? e1, ?_⟩, e2⟩
   rw [vJ, e3, hc, e2]
   simpa using hx
  ·rintro ⟨o, ho, rfl⟩
   obtain ⟨ho, hc⟩ := List.mem_filter.1 ho
   simp only [vJ, Bool.and_eq_true, beq_iff_eq, List.contains_iff_mem] at hc
   obtain ⟨h1, h2, h3⟩ := hc
   obtain ⟨k, hk⟩ := List.mem_iff_getElem?.1 ho
   obtain ⟨_, _, v3, _⟩ := co (aM h).1 hk
   refine ⟨h3, ?_⟩
   rw [v3, Int.toNat_natCast, List.getD_eq_getElem?_getD, hk]
   exact h2
end Go.Proofs.YtieaihgbjikggaaGreat
namespace Go.Proofs.YtieaihgbjikggaaGreat
open Go Go.Sx
set_option maxRecDepth 100000
set_option maxHeartbeats 1000000
theorem Lu (H : Heap) : CdR H BD zCd := ⟨rfl, EffsS.nil H, TrigsS.nil H⟩
theorem Ch {H : Heap} {v : Value} {cs : List Cd} (h : CardsS H v cs) (c : Int) (hn : ¬ (c < 0 ∨ c ≥ (cs.length : Int))) :
  ∃ a r, al (.idx 14) [v, iV c] = some (.pointer (some a)) ∧ H.read (.pointer (some a)) 14 = some r ∧ r.length = 14 ∧ Ones r ∧ CdR H r (wx cs c) := by
 obtain ⟨rows, h1, h2, h3⟩ := h
 have hlt : c.toNat < rows.length := by omega
 obtain ⟨a, k1, k2, k3, k4⟩ := h1.idx (k := .i64) (i := c.toNat) (List.getElem?_eq_getElem hlt)
 have hk : cs[c.toNat]? = some (wx cs c) := by
  rw [wx, if_neg hn, List.getD_eq_getElem?_getD, List.getElem?_eq_getElem (by omega)]; rfl
 refine ⟨a, _, ?_, k2, k3, k4, h3 c.toNat _ _ (List.getElem?_eq_getElem hlt) hk⟩
 rw [show iV c = iV (c.toNat : Int) by rw [Int.toNat_of_nonneg (by omega)]]; exact k1
def KX (cs : List Cd) (c : Int) (v : Value) (H : Heap) : Prop := ∃ cells : List Value, v = .agg cells.toArray ∧ cells.length = 14 ∧ Ones cells ∧ CdR H cells (wx cs c)
theorem J3 {H : Heap} {O : Own} {v : Value} {cs : List Cd} (h : CardsS H v cs) (o : Ob) : Triple PP kw [v, .agg o.row.toArray] H O fun r H' O' => KX cs o.card r H' ∧ O' = O := by
 refine kI (vs := v :: o.row) (by kernel_rfl) ⟨h.one, dY o⟩ ?_
 simp only [iH]
 refine ai fun r0 => ai fun r1 => ?_
 refine ae ?_
 refine ab _ (aB _ _) ?_
 refine ae (af (af ?_))
 refine ab _ h.len ?_
 refine af (af (ab _ (ef _ _) (af (ab _ (aA _ _) ?_))))
 refine ak (fun hb => ?_) (fun hb => ?_)
 ·have hb : (decide (o.card < 0) || decide (o.card ≥ (cs.length : Int))) = true := hb
  refine ae (ae ?_)
  refine ah ⟨⟨BD, rfl, rfl, ⟨rfl, rfl, rfl, rfl, rfl, rfl, rfl, rfl, rfl, rfl, rfl, rfl, rfl, rfl, trivial⟩, ?_⟩, rfl⟩
  rw [wx, if_pos (by simpa using hb)]; exact Lu H
 ·have hb : (decide (o.card < 0) || decide (o.card ≥ (cs.length : Int))) = false := hb
  obtain ⟨a, r, k1, k2, k3, k4, k5⟩ := Ch h o.card (by simpa [Bool.or_eq_false_iff] using hb)
  refine ae ?_
  refine ab _ k1 (ap (ed k2) k3 k4 ?_)
  refine ae (ae ?_)
  exact ah ⟨⟨r, by rw [← vH k3]; rfl, k3, k4, k5⟩, rfl⟩
theorem JA {H : Heap} {O : Own} {v : Value} {cs : List Cd} (h : CardsS H v cs) (o : Ob) : Triple PP eK [v, .agg o.row.toArray] H O fun r H' O' => KX cs o.card r H' ∧ O' = O := by
 refine fC (vs := v :: o.row) (by kernel_rfl) ⟨h.one, dY o⟩ ?_
 simp only [dz]
 refine ai fun r0 => ai fun r1 => ?_
 refine ae ?_
 refine ab _ (aB _ _) ?_
 refine ae (af (af ?_))
 refine ab _ h.len ?_
 refine af (af (ab _ (ef _ _) (af (ab _ (aA _ _) ?_))))
 refine ak (fun hb => ?_) (fun hb => ?_)
 ·have hb : (decide (o.card < 0) || decide (o.card ≥ (cs.length : Int))) = true := hb
  refine ae (ae ?_)
  refine ah ⟨⟨BD, rfl, rfl, ⟨rfl, rfl, rfl, rfl, rfl, rfl, rfl, rfl, rfl, rfl, rfl, rfl, rfl, rfl, trivial⟩, ?_⟩, rfl⟩
  rw [wx, if_pos (by simpa using hb)]; exact Lu H
 ·have hb : (decide (o.card < 0) || decide (o.card ≥ (cs.length : Int))) = false := hb
  obtain ⟨a, r, k1, k2, k3, k4, k5⟩ := Ch h o.card (by simpa [Bool.or_eq_false_iff] using hb)
  refine ae ?_
  refine ab _ k1 (ap (ed k2) k3 k4 ?_)
  refine ae (ae ?_)
  exact ah ⟨⟨r, by rw [← vH k3]; rfl, k3, k4, k5⟩, rfl⟩
theorem wA {H : Heap} {v : Value} {l : List (List Value)} (h : Sl H 5 v l) (hb : l.length ≤ 2 ^ 30) : Triple PP dm [v] H [] fun v' H' O' => OSl dO 5 v' l O' := by
 refine fV (vs := [v]) (by kernel_rfl) ⟨h.one, trivial⟩ ?_
 simp only [cd]
 obtain ⟨a, cap, rfl, h1, h2, h3⟩ := h
 have hev : al (.bin .eql .slice) [.slice a l.length cap, .slice none 0 0] = some (.bool a.isNone) := by cases a <;> rfl
 refine ab _ hev (ak (fun hn => ah ?_) (fun hn => fun r0 => ?_))
 ·have hl : l = [] := by
   by_cases hl : l = []
   ·exact hl
   ·obtain ⟨ad, rfl, _⟩ := h3 hl; cases hn
  subst hl
  exact OSl.nil dO 5
 ·refine aI (rows := []) (news := l) (O1 := []) (O2 := []) (e := dO) (size := 5) (bytes := 40) (by kernel_rfl) (List.Perm.refl _) (.inl ⟨⟨_, rfl⟩, rfl, rfl⟩) (fun Hf hl _ => Sl.le hl ⟨a, cap, rfl, h1, h2, h3⟩) (by simp; omega) (by simp; omega) ?_
  intro v' O1' H' _ ho
  refine ah ?_
  rw [List.append_nil]
  exact ho
theorem EG {H : Heap} {v : Value} {l : List (List Value)} (h : Sl H 2 v l) (hb : l.length ≤ 2 ^ 30) : Triple PP cU [v] H [] fun v' H' O' => OSl eW 2 v' l O' := by
 refine fw (vs := [v]) (by kernel_rfl) ⟨h.one, trivial⟩ ?_
 simp only [bR]
 obtain ⟨a, cap, rfl, h1, h2, h3⟩ := h
 have hev : al (.bin .eql .slice) [.slice a l.length cap, .slice none 0 0] = some (.bool a.isNone) := by cases a <;> rfl
 refine ab _ hev (ak (fun hn => ah ?_) (fun hn => fun r0 => ?_))
 ·have hl : l = [] := by
   by_cases hl : l = []
   ·exact hl
   ·obtain ⟨ad, rfl, _⟩ := h3 hl; cases hn
  subst hl
  exact OSl.nil eW 2
 ·refine aI (rows := []) (news := l) (O1 := []) (O2 := []) (e := eW) (size := 2) (bytes := 32) (by kernel_rfl) (List.Perm.refl _) (.inl ⟨⟨_, rfl⟩, rfl, rfl⟩) (fun Hf hl _ => Sl.le hl ⟨a, cap, rfl, h1, h2, h3⟩) (by simp; omega) (by simp; omega) ?_
  intro v' O1' H' _ ho
  refine ah ?_
  rw [List.append_nil]
  exact ho
def KZ (c : Cd) (v : Value) (H : Heap) : Prop := ∃ cells : List Value, v = .agg cells.toArray ∧ cells.length = 14 ∧ Ones cells ∧ g cells 1 = iV c.kind ∧ EffsS H (g cells 11) c.tg
theorem dc {l : List Value} (h : Ones l) {i : Nat} (hi : i < l.length) : (g l i).oneCell' = true := by
 rw [g, List.getD_eq_getElem?_getD, List.getElem?_eq_getElem hi]
 exact kj h _ (List.getElem_mem hi)
theorem Fy {H : Heap} {cells : List Value} {c : Cd} (h : CdR H cells c) (hl : cells.length = 14) (ho : Ones cells) (hli : gn c = true) :
  Triple PP sD [.agg cells.toArray] H [] fun r H' O' => KZ c r H' ∧ O' = [] := by
 simp only [gn, Bool.and_eq_true, Bool.not_eq_true', Bool.or_eq_false_iff, decide_eq_false_iff_not, List.all_eq_true] at hli
 obtain ⟨⟨b1, b2⟩, b3⟩ := hli
 obtain ⟨hk, ⟨erows, e1, e2, e3⟩, ⟨trows, t1, t2, t3⟩⟩ := h
 refine sQ (vs := cells) (by rw [← vH hl]; kernel_rfl) ho ?_
 simp only [om]
 refine ai fun r0 => ai fun r1 => ?_
 refine ae (ae ?_)
 refine aC (Triple.frozenS (wA e1 (by omega))) ?_
 rintro x H1 _ ⟨hx, rfl⟩ l1
 refine ⟨[x], rfl, ⟨hx.one, trivial⟩, ?_⟩
 refine aC (EG (t1.le l1) (by omega)) fun y H2 O2 hy l2 => ⟨[y], rfl, ⟨hy.one, trivial⟩, ?_⟩
 have ylen := hy.len
 rw [t2] at ylen
 refine ae (ae (ae ?_))
 refine ab _ ylen ?_
 refine aR c.tr.length (fun i H' O' => Heap.le H2 H' ∧ ∃ rows' A, O'.Perm A ∧ OSl eW 2 y rows' A ∧ rows'.length = c.tr.length ∧ ∀ j, i ≤ j → rows'[j]? = trows[j]?) ⟨Heap.le_refl _, trows, O2, by simp, hy, t2, fun _ _ => rfl⟩ ?_
 rintro i H' O' hi - ⟨hle, rows', A, hp, hA, hrl, hrest⟩
 refine ab _ (aB _ _) (ak (fun hb => ?_) (fun hb => ?_))
 ·have hlt : i < c.tr.length := by simpa using hb
  have hri : rows'[i]? = some trows[i] := by rw [hrest i (Nat.le_refl _)]; exact List.getElem?_eq_getElem (by omega)
  obtain ⟨er, k1, k2⟩ := t3 i trows[i] c.tr[i] (List.getElem?_eq_getElem (by omega)) (List.getElem?_eq_getElem hlt)
  have hb3 := b3 _ (List.getElem_mem hlt)
  obtain ⟨a, i1, i2, i3, i4⟩ := hA.idx (fun p h => hp.mem_iff.2 h) H' (k := .i64) hri
  obtain ⟨w1, w2⟩ := hA.rows_ok hri
  refine ab _ i1 (ap i3 w1 w2 (ai fun r2 => ?_))
  refine ae (ae (ae ?_))
  refine aC (Triple.frozenS (wA (k1.le (Heap.le_trans l1 (Heap.le_trans l2 hle))) (by rw [k2]; omega))) ?_
  rintro z H3 _ ⟨hz, rfl⟩ l3
  refine ⟨[z], rfl, ⟨hz.one, trivial⟩, ?_⟩
  obtain ⟨a2, j1, j2⟩ := hA.store (O := [] ++ O') (O2 := []) (by simpa using hp) (k := .i64) hri
  obtain ⟨A', hst, hA'⟩ := j2 1 [z] (by simp [w1]) ⟨hz.one, trivial⟩
  refine ab _ j1 ?_
  refine aL rfl (aL rfl ?_)
  refine ⟨_, hst, ?_⟩
  refine ab _ (ax (by omega)) (aK (by simp [Eqs]) hlt ⟨Heap.le_trans hle l3, _, A', by simp, hA', by simp [hrl], fun j hj => ?_⟩)
  rw [List.getElem?_set_ne (by omega)]
  exact hrest j (by omega)
 ·refine ae (ae (ae ?_))
  refine Aw ⟨⟨[g cells 0, g cells 1, g cells 2, g cells 3, g cells 4, g cells 5, g cells 6, g cells 7, g cells 8, g cells 9, g cells 10, x, y, g cells 13], rfl, rfl, ?_, hk, ⟨erows, hx.le (Heap.le_trans l2 hle), e2, e3⟩⟩, rfl⟩
  exact ⟨dc ho (by omega), dc ho (by omega), dc ho (by omega), dc ho (by omega), dc ho (by omega), dc ho (by omega), dc ho (by omega), dc ho (by omega), dc ho (by omega), dc ho (by omega), dc ho (by omega), hx.one, hy.one, dc ho (by omega), trivial⟩
theorem Hh {H : Heap} {v : Value} {cs : List Cd} (h : CardsS H v cs) (hli : dR cs = true) (o : Ob) : Triple PP oD [v, .agg o.row.toArray] H [] fun r H' O' => KZ (wx cs o.card) r H' ∧ O' = [] := by
 refine pR (vs := v :: o.row) (by kernel_rfl) ⟨h.one, dY o⟩ ?_
 simp only [ku]
 refine ai fun r0 => ai fun r1 => ?_
 refine ae ?_
 refine aC (J3 (O := []) h o) ?_
 rintro _ H1 _ ⟨⟨cells, rfl, k1, k2, k3⟩, rfl⟩ l1
 refine ⟨cells, by simp [Shp.open, k1], k2, ?_⟩
 have hrow := vH k1
 refine aC (Fy (cells := [g cells 0, g cells 1, g cells 2, g cells 3, g cells 4, g cells 5, g cells 6, g cells 7, g cells 8, g cells 9, g cells 10, g cells 11, g cells 12, g cells 13]) (by rw [hrow]; exact k3) rfl (by rw [hrow]; exact k2) (wo hli _)) ?_
 rintro _ H2 _ ⟨⟨cells2, rfl, m1, m2, m3, m4⟩, rfl⟩ l2
 refine ⟨cells2, by simp [Shp.open, m1], m2, ?_⟩
 refine ae (ae ?_)
 exact ah ⟨⟨cells2, by rw [← vH m1]; rfl, m1, m2, m3, m4⟩, rfl⟩
theorem Cy {α : Type} {p : α → Bool} {l : List α} {i : Nat} (h : i < l.length) : ((l.take (i + 1)).filter p).length = ((l.take i).filter p).length + if p l[i] then 1 else 0 := by
 rw [List.take_add_one, List.getElem?_eq_getElem h, List.filter_append, List.length_append]
 congr 1
 by_cases hp : p l[i] <;> simp [hp]
theorem DB {H : Heap} {O : Own} {v : Value} {tg : List Int} (h : EffsS H v tg) {i : Nat} (hi : i < tg.length) :
  ∃ a r, al (.idx 5) [v, iV i] = some (.pointer (some a)) ∧ H.read (.pointer (some a)) 5 = some r ∧ r.length = 5 ∧ Ones r ∧ g r 1 = iV tg[i] ∧ Reads H O (bc (.pointer (some a)) 1) 1 [iV tg[i]] := by
 obtain ⟨rows, h1, h2, h3⟩ := h
 have hlt : i < rows.length := by omega
 obtain ⟨a, k1, k2, k3, k4⟩ := h1.idx (k := .i64) (i := i) (List.getElem?_eq_getElem hlt)
 have hg := h3 i _ _ (List.getElem?_eq_getElem hlt) (List.getElem?_eq_getElem hi)
 obtain ⟨a2, j1, _, j3, _⟩ := (h1.rsl O).idx .i64 i rows[i] (by simp [hlt])
 obtain rfl : a2 = a := by rw [j1] at k1; simpa using k1
 have hr := j3 1 1 (by omega)
 refine ⟨_, _, k1, k2, k3, k4, hg, ?_⟩
 have e : ((rows[i]).drop 1).take 1 = [iV tg[i]] := by
  match hm : rows[i], k3 with
  | [_, b, _, _, _], _ => rw [hm] at hg; simpa [g] using hg
 rw [e] at hr
 exact hr
theorem Hm {H : Heap} {O : Own} {v : Value} {tg : List Int} (h : EffsS H v tg) (hb : tg.length ≤ 1000000) : RetO PP oM [v] H O (iV (bo tg).length) := by
 refine sP (vs := [v]) (by kernel_rfl) ⟨h.one, trivial⟩ ?_
 simp only [jK]
 refine ab _ h.len ?_
 refine dq tg.length (fun i x H' O' => O' = O ∧ Heap.le H H' ∧ x = iV (bo (tg.take i)).length) ⟨rfl, Heap.le_refl _, rfl⟩ ?_
 rintro i x H' O' hi - ⟨rfl, hle, rfl⟩
 refine ab _ (aB _ _) (ak (fun hb => ?_) (fun hb => ?_))
 ·have hlt : i < tg.length := by simpa using hb
  obtain ⟨a, r, k1, k2, k3, k4, k5, _⟩ := DB (O := O') (h.le hle) hlt
  refine ab _ k1 (ap (ed k2) k3 k4 (ai fun r0 => ?_))
  refine ae (ae ?_)
  rw [k5]
  refine ab _ (aX _ _) ?_
  have hft := Cy (p := fun t : Int => t != 0) hlt
  have hfl : ((tg.take i).filter fun t : Int => t != 0).length ≤ tg.length := Nat.le_trans (List.length_filter_le _ _) (by rw [List.length_take]; omega)
  refine ak (fun hc => ?_) (fun hc => ?_)
  ·have hc : (tg[i] != 0) = true := hc
   rw [if_pos hc] at hft
   refine ab _ (ax (by rw [bo]; omega)) (ab _ (ax (by omega)) (aN (by simp [Eqs]) hlt ⟨rfl, hle, ?_⟩))
   rw [bo, bo, hft]
  ·have hc : (tg[i] != 0) = false := hc
   rw [if_neg (by rw [hc]; simp)] at hft
   refine ab _ (ax (by omega)) (aN (by simp [Eqs]) hlt ⟨rfl, hle, ?_⟩)
   rw [bo, bo, hft]; rfl
 ·have hge : tg.length ≤ i := by simpa using hb
  rw [List.take_of_length_le hge]
  exact ah ⟨rfl, rfl⟩
end Go.Proofs.YtieaihgbjikggaaGreat
namespace Go.Proofs.YtieaihgbjikggaaGreat
open Go Go.Sx
set_option maxRecDepth 100000
set_option maxHeartbeats 1000000
def Lb (c : Int) : Ob := ⟨0, c, 0, 0, 0, 0, 0, 0, 0, false, false, false⟩
def Kg (k : Int) : Bool := k == 3 || k == 4
def lI (cs : List Cd) (x : It) : Bool := (Kg (wx cs x.card).kind && decide (x.trig < 0)) && decide ((x.tgs.length : Int) ≥ ((bo (wx cs x.card).tg).length : Int))
def kG (cs : List Cd) (x : It) : Bool := (x.trig == -1 && Kg (wx cs x.card).kind) && decide ((x.tgs.length : Int) ≥ ((bo (wx cs x.card).tg).length : Int))
theorem Eu {cs : List Cd} (h : dR cs = true) (c : Int) : (wx cs c).tg.length ≤ 5 := by
 have := wo h c
 simp only [gn, Bool.and_eq_true, Bool.not_eq_true', Bool.or_eq_false_iff, decide_eq_false_iff_not] at this
 omega
theorem JY {H : Heap} {v : Value} {cs : List Cd} (h : CardsS H v cs) (hli : dR cs = true) {row : List Value} {x : It} (hx : ItR H [] row x) : RetO PP rK [v, .agg row.toArray] H [] (.bool (lI cs x)) := by
 obtain ⟨s, rfl, hs⟩ := hx
 refine vw (vs := [v, iV x.player, iV x.id, iV x.card, iV x.trig, s]) (by kernel_rfl) ⟨h.one, rfl, rfl, rfl, rfl, hs.one, trivial⟩ ?_
 simp only [mr]
 refine ai fun r0 => ?_
 refine ae ?_
 refine aC (Hh h hli (Lb x.card)) ?_
 rintro _ H1 _ ⟨⟨cells, rfl, k1, k2, k3, k4⟩, rfl⟩ l1
 refine ⟨cells, by simp [Shp.open, k1], k2, ai fun r1 => ?_⟩
 have k3 : g cells 1 = iV (wx cs x.card).kind := k3
 have k4 : EffsS H1 (g cells 11) (wx cs x.card).tg := k4
 refine ae (ae ?_)
 rw [k3]
 have hsl : al .len [s] = some (iV x.tgs.length) := by have := hs.len; rwa [List.length_map] at this
 refine ab _ (aF _ _) (ae (af (af (ab _ (aF _ _) (af (ab _ (aA _ _) (ae (af (af (ab _ (aB _ _) (af (ab _ (bE _ _) ?_))))))))))))
 refine ak (fun hb => ?_) (fun hb => ?_)
 ·have hb : (Kg (wx cs x.card).kind && decide (x.trig < 0)) = true := hb
  refine ae ?_
  refine ab _ hsl ?_
  refine ae ?_
  refine aj (Hm k4 (by have := Eu hli x.card; omega)) rfl ⟨rfl, trivial⟩ fun H2 l2 => ?_
  refine ab _ (dS _ _) (ah ⟨?_, rfl⟩)
  rw [lI, hb, Bool.true_and]
 ·have hb : (Kg (wx cs x.card).kind && decide (x.trig < 0)) = false := hb
  refine ah ⟨?_, rfl⟩
  rw [lI, hb, Bool.false_and]
theorem Gl {H : Heap} {v : Value} {tg : List Int} (h : EffsS H v tg) (hb : tg.length ≤ 1000000) : Triple PP jQ [v] H [] fun r _ O' => OSl dr 1 r (aO (bo tg)) O' := by
 refine oP (vs := [v]) (by kernel_rfl) ⟨h.one, trivial⟩ ?_
 simp only [gt]
 refine dq tg.length (fun i x H' O' => Heap.le H H' ∧ OSl dr 1 x (aO (bo (tg.take i))) O') ⟨Heap.le_refl _, OSl.nil _ _⟩ ?_
 rintro i x H' O' hi - ⟨hle, hx⟩
 refine ab _ (h.le hle).len ?_
 refine ab _ (aB _ _) (ak (fun hb => ?_) (fun hb => ?_))
 ·have hlt : i < tg.length := by simpa using hb
  obtain ⟨a, r, k1, k2, k3, k4, k5, k6⟩ := DB (O := O') (h.le hle) hlt
  have hft := gT (p := fun t : Int => t != 0) hlt
  refine ab _ k1 ?_
  refine aL rfl ?_
  refine ap k6 rfl ⟨rfl, trivial⟩ ?_
  refine ab _ (aX _ _) ?_
  refine ak (fun hc => ?_) (fun hc => ?_)
  ·have hc : (tg[i] != 0) = true := hc
   have hlen : (bo (tg.take i)).length ≤ 1000000 := by rw [bo]; exact Nat.le_trans (List.length_filter_le _ _) (by rw [List.length_take]; omega)
   refine ab _ k1 ?_
   refine aL rfl ?_
   refine ap k6 rfl ⟨rfl, trivial⟩ (ai fun r2 => ?_)
   refine aI (rows := aO (bo (tg.take i))) (news := [[iV tg[i]]]) (O1 := O') (O2 := []) (e := dr) (size := 1) (bytes := 8) (by kernel_rfl) (by simp) hx (fun Hf _ hf => Sl.block1 (hf _ List.mem_cons_self) rfl ⟨rfl, trivial⟩) (by rw [aO, List.length_map, List.length_singleton]; omega) (by rw [aO, List.length_map, List.length_singleton]; omega) ?_
   intro v' A' H6 l6 hA'
   refine ab _ (ax (by omega)) (aN (by simp [Eqs]) hlt ⟨Heap.le_trans hle l6, ?_⟩)
   rw [List.append_nil, bo, hft, if_pos hc, aO, List.map_append]; exact hA'
  ·have hc : (tg[i] != 0) = false := hc
   refine ab _ (ax (by omega)) (aN (by simp [Eqs]) hlt ⟨hle, ?_⟩)
   rw [bo, hft, if_neg (by rw [hc]; simp), List.append_nil]; exact hx
 ·have hge : tg.length ≤ i := by simpa using hb
  rw [List.take_of_length_le hge] at hx
  exact ah hx
theorem Jy {H : Heap} {v : Value} {cs : List Cd} (h : CardsS H v cs) (hli : dR cs = true) {row : List Value} {x : It} (hx : ItR H [] row x) : RetO PP jP [v, .agg row.toArray] H [] (.bool (kG cs x)) := by
 obtain ⟨s, rfl, hs⟩ := hx
 refine oO (vs := [v, iV x.player, iV x.id, iV x.card, iV x.trig, s]) (by kernel_rfl) ⟨h.one, rfl, rfl, rfl, rfl, hs.one, trivial⟩ ?_
 simp only [gq]
 refine ai fun r0 => ?_
 refine ae ?_
 refine aC (JA (O := []) h (Lb x.card)) ?_
 rintro _ H1 _ ⟨⟨cells, rfl, k1, k2, k3⟩, rfl⟩ l1
 refine ⟨cells, by simp [Shp.open, k1], k2, ai fun r1 => ?_⟩
 have k5 : g cells 1 = iV (wx cs x.card).kind := k3.kind
 have k4 : EffsS H1 (g cells 11) (wx cs x.card).tg := k3.eff
 refine ae (ae ?_)
 rw [k5]
 have hsl : al .len [s] = some (iV x.tgs.length) := by have := hs.len; rwa [List.length_map] at this
 refine ab _ (aF _ _) (ae (af (af (ab _ (aF _ _) (af (ae (af (af (af (af (ab _ (aF _ _) (af (af (af (ab _ (aA _ _) (af (ab _ (bE _ _) ?_)))))))))))))))))
 refine ak (fun hb => ?_) (fun hb => ?_)
 ·have hb : (x.trig == -1 && Kg (wx cs x.card).kind) = true := hb
  refine ae ?_
  refine ab _ hsl ?_
  refine ae ?_
  refine aC (Gl k4 (by have := Eu hli x.card; omega)) fun y H2 O2 hy l2 => ⟨[y], rfl, ⟨hy.one, trivial⟩, ?_⟩
  have hyl := hy.len
  rw [aO, List.length_map] at hyl
  refine ab _ hyl ?_
  refine ab _ (dS _ _) (Aw ⟨?_, rfl⟩)
  rw [kG, hb, Bool.true_and]
 ·have hb : (x.trig == -1 && Kg (wx cs x.card).kind) = false := hb
  refine ah ⟨?_, rfl⟩
  rw [kG, hb, Bool.false_and]
theorem HN {cs : List Cd} {x : It} (h : ct x false = true) : kG cs x = lI cs x := by
 have ht : (x.trig == -1) = decide (x.trig < 0) := by
  simp only [ct, Bool.and_eq_true, aq, decide_eq_true_eq] at h
  obtain ⟨_, _, _, h4, _⟩ := h
  rw [Bool.eq_iff_iff]; simp; omega
 rw [kG, lI, ht, Bool.and_comm (decide (x.trig < 0))]
end Go.Proofs.YtieaihgbjikggaaGreat
