/- Equal lists; the law's made, parses. -/
import Derived.Test.YtamgiojcbdbokaaGreatDoorSHB
import Derived.Test.YtamgiojcbdbokaaGreatDoorRows
import Derived.Test.YtamgiojcbdbokaaGreatDoorTie
import Derived.Test.YtamgiojcbdbokaaGreatDoorCards
import Derived.SevenTiedAt
import Derived.Carry
import Derived.Lay
import Derived.LaidMore
import Derived.ProofKit
import Derived.Stop.Joined
import Derived.Lib.LaidTab
import Derived.Shelf.Vars
namespace Go.Proofs.YtamgiojcbdbokaaGreatDoor
open Go Go.Sx
open Go.Sx (Own)
set_option maxRecDepth 100000
set_option maxHeartbeats 1000000
deriving instance DecidableEq for Cp
theorem Da (o p : Cp) : zJ PP (.eqv .neq ar false) [.agg o.row.toArray, .agg p.row.toArray] = some (.bool (!(o == p))) := by
 have e : zJ PP (.eqv .neq ar false) [.agg o.row.toArray, .agg p.row.toArray] = (ug [o.card == p.card, o.n == p.n]).map fun b => .bool (!b) := by kernel_rfl
 rw [e, lX]
 obtain ⟨a, b⟩ := o
 obtain ⟨c, d⟩ := p
 have : ((⟨a, b⟩ : Cp) == ⟨c, d⟩) = (a == c && b == d) := by
  rw [Bool.eq_iff_iff]; simp
 rw [this]
 simp
theorem w8 {H : Heap} (O : Go.Sx.Own) {v v' : Value} {l l' : List Cp} (h : nR H v l) (h' : nR H v' l') : RetO PP gm [v, v'] H O (.bool (decide (l = l'))) := by
 refine jM (vs := [v, v']) (by kernel_rfl) ⟨h.one, h'.one, trivial⟩ ?_
 simp only [gg]
 obtain ⟨lo, hB⟩ := ly h
 obtain ⟨lo', _⟩ := ly h'
 refine aa _ lo (aa _ lo' (aa _ (eH _ _) (ai (fun hb => af ⟨?_, rfl⟩) (fun hb => ?_))))
 ·rw [decide_eq_false]; rintro rfl; simp at hb
 have hll : l.length = l'.length := by simp at hb; omega
 refine aK l.length (fun i H' O' => O' = O ∧ Heap.le H H' ∧ l.take i = l'.take i) ⟨rfl, Heap.le_refl H, by simp⟩ ?_
 rintro i H4 O' hi - ⟨rfl, l4, hor⟩
 refine aa _ lo ?_
 refine aa _ (aC _ _) (ai (fun hb => ?_) (fun hb => ?_))
 ·have hlt : i < l.length := by simpa using hb
  have hlt' : i < l'.length := by omega
  obtain ⟨p, h1, h2, _, _⟩ := uc O' (h.le l4) hlt
  obtain ⟨q, k1, k2, _, _⟩ := uc O' (h'.le l4) hlt'
  refine aa _ h1 (ao h2 rfl ⟨rfl, rfl, trivial⟩ ?_)
  refine aa _ k1 (ao k2 rfl ⟨rfl, rfl, trivial⟩ ?_)
  refine uK (Da l[i] l'[i]) (ai (fun hb => af ⟨?_, rfl⟩) (fun hb => ?_))
  ·have hne : l[i] ≠ l'[i] := by simpa using hb
   rw [decide_eq_false]; rintro rfl; exact hne rfl
  ·have he : l[i] = l'[i] := by simpa using hb
   refine aa _ (aG (by omega)) (ay (by simp [Eqs, E]) hlt ⟨rfl, l4, ?_⟩)
   rw [List.take_add_one, List.take_add_one, hor, List.getElem?_eq_getElem hlt, List.getElem?_eq_getElem hlt', he]
 ·have hge : l.length ≤ i := by simpa using hb
  rw [List.take_of_length_le hge, List.take_of_length_le (by omega)] at hor
  exact af ⟨by rw [decide_eq_true hor], rfl⟩
theorem BI {H : Heap} {v v' : Value} {zs : List Int} {l : List Cp} (hs : Sl H 1 v (bK zs)) (h' : nR H v' l) (e : Int) : RetO PP dG [v, v', iV e] H [] (.bool (decide ((ofV zs).1 = l) && (ofV zs).2 == e)) := by
 refine jP (vs := [v, v', iV e]) (by kernel_rfl) ⟨hs.one, h'.one, rfl, trivial⟩ ?_
 simp only [gj]
 refine bn (DZ hs) ?_
 rintro _ H1 _ ⟨⟨sl, rfl, h1⟩, rfl⟩ l1
 refine ⟨[sl, iV (ofV zs).2], rfl, ⟨h1.one, rfl, trivial⟩, ?_⟩
 refine al (w8 _ h1 (h'.le l1)) rfl ⟨rfl, trivial⟩ fun H2 l2 => ?_
 refine ab (ab (aa _ (an _ _) (ab (aa _ (ap _ _) ?_))))
 exact af ⟨rfl, rfl⟩
theorem yZ {H : Heap} {p v : Value} {cs : List CdF} (hp : PoolF H p cs) (hG : GlobOk H) {s : List UInt8} (hs : s.length ≤ 1000) {l : List Cp} (h' : nR H v l) (m e : Int) : RetO PP cR [p, Str s, v, iV m, iV e] H [] (.bool ((decide ((cM cs s).1 = l) && (cM cs s).2.1 == m) && (cM cs s).2.2 == e)) := by
 refine iI (vs := [p, Str s, v, iV m, iV e]) (by kernel_rfl) ⟨hp.one, rfl, h'.one, rfl, rfl, trivial⟩ ?_
 simp only [eK]
 refine bn (AH hp hG s hs) ?_
 rintro _ H1 _ ⟨⟨sl, rfl, h1⟩, rfl⟩ l1
 refine ⟨[sl, iV (cM cs s).2.1, iV (cM cs s).2.2], rfl, ⟨h1.one, rfl, rfl, trivial⟩, ?_⟩
 refine al (w8 _ h1 (h'.le l1)) rfl ⟨rfl, trivial⟩ fun H2 l2 => ?_
 refine ab (ab (aa _ (an _ _) (ab (aa _ (ap _ _) (ab (ab (aa _ (an _ _) (ab (aa _ (ap _ _) ?_)))))))))
 exact af ⟨rfl, rfl⟩
theorem xK {n : Nat} (h : n < 10) : Go.Lib.decDigits n = [UInt8.ofNat (48 + n)] := by rw [Go.Lib.decDigits, dif_pos h]
theorem Ak {n : Nat} (h : ¬ n < 10) : Go.Lib.decDigits n = Go.Lib.decDigits (n / 10) ++ [UInt8.ofNat (48 + n % 10)] := by rw [Go.Lib.decDigits, dif_neg h]
theorem xM {n : Nat} (h : n < 100) : (Go.Lib.decDigits n).length ≤ 2 := by
 by_cases h1 : n < 10
 ·rw [xK h1]; simp
 ·rw [Ak h1, xK (by omega)]; simp
theorem AK (n : Nat) (h : n < 100) (H : Heap) (O : Go.Sx.Own) : RetO PP 40 [iV n] H O (Str (Go.Lib.decDigits n)) := by
 refine eG fun w F hm => ?_
 refine (Tryz.strconv_Itoa_small n h w).mono ?_
 rintro e w' ⟨rfl, rfl⟩
 exact ⟨rfl, fun _ _ => rfl, rfl⟩
def rk (cs : List CdF) (x : Cp) : List UInt8 := Go.Lib.decDigits x.n.toNat ++ [32] ++ (hU cs x.card).nm ++ [10]
def od (cs : List CdF) (l : List Cp) : List UInt8 := l.flatMap (rk cs)
theorem zk {c : CdF} (h : okN c) : 1 ≤ c.nm.length ∧ c.nm.length ≤ 32 := by
 have h := h.1
 simp only [jV, wi, Bool.and_eq_true, decide_eq_true_eq] at h
 omega
theorem vm {cs : List CdF} {i : Int} (h : inP cs i) : hU cs i ∈ cs := by
 have hlt : i.toNat < cs.length := by have := h.1; have := h.2; omega
 rw [hU, if_pos h, List.getD_eq_getElem?_getD, List.getElem?_eq_getElem hlt]
 exact List.getElem_mem hlt
theorem yN {cs : List CdF} (hk : ∀ c ∈ cs, okN c) {x : Cp} (hx : mW cs x) : (rk cs x).length ≤ 36 ∧ 4 ≤ (rk cs x).length ∨ (rk cs x).length ≤ 36 := by
 right
 have h1 := (zk (hk _ (vm hx.1))).2
 have h2 := xM (n := x.n.toNat) (by have := hx.2.1; have := hx.2.2.1; omega)
 simp only [rk, List.length_append, List.length_singleton]
 omega
theorem wG {cs : List CdF} {l : List Cp} {i : Nat} (hi : i < l.length) : od cs (l.take (i + 1)) = od cs (l.take i) ++ rk cs l[i] := by
 rw [List.take_add_one, List.getElem?_eq_getElem hi, Option.toList_some, od, List.flatMap_append, List.flatMap_singleton]
 rfl
theorem ku : ∀ {l r : List Int}, l.Pairwise (· < ·) → r.Pairwise (· < ·) → (∀ x, x ∈ l ↔ x ∈ r) → l = r
 | [], [], _, _, _ => rfl
 | [], b :: r, _, _, h => by have := (h b).2 (by simp); cases this
 | a :: l, [], _, _, h => by have := (h a).1 (by simp); cases this
 | a :: l, b :: r, hl, hr, h => by
  rw [List.pairwise_cons] at hl hr
  have e : a = b := by
   have h1 := (h a).1 (by simp)
   have h2 := (h b).2 (by simp)
   rcases List.mem_cons.1 h1 with e | h1
   ·exact e
   rcases List.mem_cons.1 h2 with e | h2
   ·exact e.symm
   have := hl.1 b h2
   have := hr.1 a h1
   omega
  subst e
  congr 1
  refine ku hl.2 hr.2 fun x => ⟨fun hx => ?_, fun hx => ?_⟩
  ·rcases List.mem_cons.1 ((h x).1 (by simp [hx])) with e | h'
   ·have := hl.1 x hx; omega
   ·exact h'
  ·rcases List.mem_cons.1 ((h x).2 (by simp [hx])) with e | h'
   ·have := hr.1 x hx; omega
   ·exact h'
theorem sJ : ∀ {l : List Cp} {b : Int}, By b l → (l.map (·.card)).Pairwise (· < ·) ∧ ∀ x ∈ l, b < x.card
 | [], _, _ => ⟨List.Pairwise.nil, fun x hx => (by cases hx)⟩
 | x :: l, b, h => by
  obtain ⟨h1, h2⟩ := sJ h.2
  refine ⟨?_, fun y hy => ?_⟩
  ·rw [List.map_cons, List.pairwise_cons]
   refine ⟨fun c hc => ?_, h1⟩
   obtain ⟨y, hy, rfl⟩ := List.mem_map.1 hc
   exact h2 y hy
  ·rcases List.mem_cons.1 hy with rfl | hy
   ·exact h.1
   ·have := h2 y hy
    have := h.1
    omega
theorem vB {l l' : List Cp} (hp : l'.Perm l) {b : Int} (hi : By b l) : lk l' = l := by
 obtain ⟨h1, _⟩ := sJ hi
 have hnd : (l.map (·.card)).Nodup := h1.imp fun h e => by omega
 have hnd' : (l'.map (·.card)).Nodup := (hp.map _).nodup_iff.2 hnd
 have hz : cL (l'.map (·.card)) = l.map (·.card) := by
  have hperm : (cL (l'.map (·.card))).Perm (l'.map (·.card)) := List.mergeSort_perm _ _
  have hs : (cL (l'.map (·.card))).Pairwise fun x y => decide (x ≤ y) = true := List.pairwise_mergeSort (fun a b c h1 h2 => by simp at *; omega) (fun a b => by simp; omega) _
  have hn := hperm.nodup_iff.2 hnd'
  refine ku ?_ h1 fun x => ?_
  ·exact List.Pairwise.imp₂ (fun a b h1 h2 => by simp at h1; omega) hs hn
  ·rw [hperm.mem_iff, (hp.map _).mem_iff]
 rw [lk, hz, List.map_map]
 have : ∀ x ∈ l, ((fun c => (⟨c, uf l' c⟩ : Cp)) ∘ (·.card)) x = x := fun x hx => by
  show (⟨x.card, uf l' x.card⟩ : Cp) = x
  rw [sT hnd' (hp.mem_iff.2 hx)]
 rw [List.map_congr_left this, List.map_id']
end Go.Proofs.YtamgiojcbdbokaaGreatDoor
namespace Go.Sx
open Go Go.Proofs Go.Lib
set_option maxRecDepth 100000
set_option maxHeartbeats 1000000
def dp (l : List UInt8) : List (List Value) := l.map fun b => [.int .u8 b.toNat]
theorem dn (l : List UInt8) : (dp l).length = l.length := List.length_map _
theorem qK (l : List UInt8) : (dp l).flatten = strCells ⟨l.toArray⟩ := by
 have h : ∀ l : List UInt8, (dp l).flatten = l.map fun b => Value.int .u8 b.toNat := fun l => by
  induction l with
  | nil => rfl
  | cons b l ih => simp only [dp, List.map_cons, List.flatten_cons] at ih ⊢; rw [ih]; rfl
 rw [h, strCells]
theorem s9 (l s : List UInt8) : dp (l ++ s) = dp l ++ dp s := List.map_append
theorem eE {l : List UInt8} {row : List Value} (h : row ∈ dp l) : row.length = 1 ∧ Ones row := by
 obtain ⟨b, _, rfl⟩ := List.mem_map.1 h
 exact ⟨rfl, rfl, trivial⟩
theorem wu {P : Program} {t u ty e : TypeId} {i : TypeInfo} (ht : P.underlying t = some (.slice e)) (hu : P.underlying u = some .string) (hi : P.info? e = some i) (hz : i.zero = some (.int .u8 0)) (hs1 : i.size = 1) (hby : i.bytes = 1)
  {v : Value} {l s : List UInt8} {H : Heap} {O1 : Go.Sx.Own} (h : OSl e 1 v (dp l) O1) (hlen : l.length + s.length ≤ 100000000) :
  bJ P ((PrimOp.bi .append #[t, u] ty).sem [v, Str s]) H O1 fun v' H' O' => H' = H ∧ OSl e 1 v' (dp (l ++ s)) O' := by
 intro w F hm
 have hsz : (⟨s.toArray⟩ : ByteArray).size = s.length := by simp [ByteArray.size]
 have hsc : strCells ⟨s.toArray⟩ = (dp s).flatten := (qK s).symm
 have hsl : (dp s).flatten.length = s.length := by rw [← hsc, strCells_length, hsz]
 have grown : ∀ (cap : Nat) (olds : List Value), olds = (dp l).flatten → cap < l.length + s.length → ∀ O2, Models w H (O2 ++ F) →
   (Builtin.append_ #[t, u] ty #[v, .string ⟨s.toArray⟩]).run P w = .ok (.slice (some ⟨w.heap.size, 0, none⟩) (l.length + s.length) (grownCap w (l.length + s.length) cap e))
    (w.drew.alloc (.cells (olds.toArray ++ (strCells ⟨s.toArray⟩).toArray ++ Builtin.zeroCells (Value.int .u8 0).cells (grownCap w (l.length + s.length) cap e - (l.length + s.length))) e)) →
   ∃ r w' H' O', ((PrimOp.bi .append #[t, u] ty).sem [v, Str s]).run P w = .ok (.value r) w' ∧ (H' = H ∧ OSl e 1 r (dp (l ++ s)) O') ∧ Heap.le H H' ∧ Models w' H' (O' ++ F) := by
  intro cap olds ho hc O2 hm2 hrun
  have hd : Models w.drew H (O2 ++ F) := Models.same hm2 rfl rfl
  have hol : olds.length = l.length := by rw [ho, aF (size := 1) (fun r hr => (eE hr).1), dn, Nat.mul_one]
  have hge := grownCap_ge w (l.length + s.length) cap e
  have hcm : grownCap w (l.length + s.length) cap e ≤ maxLen := grownCap_le_maxLen w (l.length + s.length) cap e (by simp only [maxLen]; omega)
  generalize grownCap w (l.length + s.length) cap e = c2 at *
  have hp := hd.push (.cells (olds.toArray ++ (strCells ⟨s.toArray⟩).toArray ++ Builtin.zeroCells (Value.int .u8 0).cells (c2 - (l.length + s.length))) e (0, 0))
  have hcells : olds.toArray ++ (strCells ⟨s.toArray⟩).toArray ++ Builtin.zeroCells (Value.int .u8 0).cells (c2 - (l.length + s.length)) = ((dp (l ++ s)).flatten ++ (Builtin.zeroCells (Value.int .u8 0).cells (c2 - (l.length + s.length))).toList).toArray := by
   apply Array.ext'
   rw [s9, List.flatten_append, ← ho, ← hsc]
   simp
  rw [hcells] at hrun hp
  refine ⟨.slice (some ⟨w.heap.size, 0, none⟩) (l.length + s.length) c2, w.drew.alloc (.cells ((dp (l ++ s)).flatten ++ (Builtin.zeroCells (Value.int .u8 0).cells (c2 - (l.length + s.length))).toList).toArray e (0, 0)), H, [(w.heap.size, _)], ?_, ⟨rfl, .inr ⟨w.heap.size, (dp (l ++ s)).flatten ++ (Builtin.zeroCells (Value.int .u8 0).cells (c2 - (l.length + s.length))).toList, c2, ?_, rfl, ?_, ?_, ?_, fun r hr => (eE hr).1, fun r hr => (eE hr).2, ?_⟩⟩, Heap.le_refl H, ?_⟩
  ·simp only [PrimOp.sem, builtin]
   rw [Sem.run_bind]
   show Result.andThen ((Builtin.append_ #[t, u] ty #[v, .string ⟨s.toArray⟩]).run P w) _ = _
   rw [hrun]
   rfl
  ·rw [dn, List.length_append]
  ·have h1 : (Builtin.zeroCells (Value.int .u8 0).cells (c2 - (l.length + s.length))).toList.length = c2 - (l.length + s.length) := by
    rw [Array.length_toList, size_zeroCells]
    show (c2 - (l.length + s.length)) * 1 = _
    omega
   have h2 : (dp (l ++ s)).flatten.length = l.length + s.length := by rw [aF (size := 1) (fun r hr => (eE hr).1), dn, List.length_append, Nat.mul_one]
   rw [List.length_append, h1, h2]
   omega
  ·rw [dn, List.length_append]; exact hge
  ·simp only [maxLen] at hcm; omega
  ·rw [← aF (size := 1) (fun r hr => (eE hr).1), List.take_left]
  ·refine hp.sub ?_
   rw [List.singleton_append]
   exact (List.sublist_append_right O2 F).cons_cons _
 have hown := fun hne => h.ownsRow (w := w) (F := F) hne hm
 rcases h with ⟨⟨a, rfl⟩, hr, rfl⟩ | ⟨r, cs, cap, rfl, rfl, hcl, hlc, hcap, hl, ho, htk⟩
 ·have hl0 : l = [] := by simpa [dp] using hr
  subst hl0
  by_cases hs0 : s = []
  ·subst hs0
   refine ⟨.slice a 0 0, w, H, [], ?_, ⟨rfl, .inl ⟨⟨a, rfl⟩, rfl, rfl⟩⟩, Heap.le_refl H, hm⟩
   simp only [PrimOp.sem, builtin]
   rw [Sem.run_bind]
   have : (Builtin.append_ #[t, u] ty #[.slice a 0 0, .string ⟨#[]⟩]).run P w = .ok (.slice a 0 0) w := by
    cases a <;> simp [Builtin.append_, run_underlying ht, run_underlying hu, sizeOf, typeInfo, hi, Builtin.lenOf, Builtin.firstCells, storeCells, ByteArray.size]
   show Result.andThen ((Builtin.append_ #[t, u] ty #[.slice a 0 0, .string ⟨#[]⟩]).run P w) _ = _
   rw [this]
   rfl
  ·have hpos : 0 < s.length := List.length_pos_iff.2 hs0
   refine grown 0 [] rfl (by simp; omega) [] hm ?_
   cases a with
   | none =>
    have hr := run_append_nil_string (P := P) w t u ty e i (.int .u8 0) ht hu hi hz ⟨s.toArray⟩ (by rw [hsz]; omega) (by rw [hsz]; omega) (by rw [hby, hsz]; omega)
    rw [hsz] at hr
    simp only [List.length_nil, Nat.zero_add, Array.empty_append]
    have e1 : ((⟨s.toArray⟩ : ByteArray).data.map fun b => Value.int .u8 b.toNat) = (strCells ⟨s.toArray⟩).toArray := by
     apply Array.ext'
     simp [strCells]
    rw [e1] at hr
    exact hr
   | some b =>
    have hr := run_append_grow_string (P := P) w t u ty e i (.int .u8 0) ht hu hi hz b 0 0 [] (by simp) (by simp) ⟨s.toArray⟩ (by rw [hsz]; omega) (by rw [hsz]; omega) (by rw [hby]; exact growslice_fits (by rw [hsz]; omega) (by rw [hsz]; omega))
    rw [hsz] at hr
    exact hr
 ·rw [dn] at hlc htk grown ⊢
  have hrow := (hm.own (r, .cells cs.toArray e (0, 0)) (by simp)).1
  have htk' : cs.take l.length = (dp l).flatten := by simpa using htk
  by_cases hroom : l.length + s.length ≤ cap
  ·have hrun := run_append_room_string (P := P) w t u ty e i ht hu hi hs1 r l.length cap cs.toArray hrow ⟨s.toArray⟩ (by rw [hsz]; exact hroom) (by rw [hsz, List.size_toArray]; omega)
   rw [hsz] at hrun
   have hnew : cs.toArray.toList.take l.length ++ strCells ⟨s.toArray⟩ ++ cs.toArray.toList.drop (l.length + s.length) = (dp (l ++ s)).flatten ++ cs.drop (l.length + s.length) := by
    rw [s9, List.flatten_append, ← htk', ← hsc]
   rw [hnew] at hrun
   have h2 : (dp (l ++ s)).flatten.length = l.length + s.length := by rw [aF (size := 1) (fun r hr => (eE hr).1), dn, List.length_append, Nat.mul_one]
   refine ⟨.slice (some ⟨r, 0, none⟩) (l.length + s.length) cap, w.setRow r ((dp (l ++ s)).flatten ++ cs.drop (l.length + s.length)).toArray, H, [(r, .cells ((dp (l ++ s)).flatten ++ cs.drop (l.length + s.length)).toArray e (0, 0))], ?_, ⟨rfl, .inr ⟨r, (dp (l ++ s)).flatten ++ cs.drop (l.length + s.length), cap, ?_, rfl, ?_, ?_, hcap, fun r hr => (eE hr).1, fun r hr => (eE hr).2, ?_⟩⟩, Heap.le_refl H, ?_⟩
   ·simp only [PrimOp.sem, builtin]
    rw [Sem.run_bind]
    show Result.andThen ((Builtin.append_ #[t, u] ty #[.slice (some ⟨r, 0, none⟩) l.length cap, .string ⟨s.toArray⟩]).run P w) _ = _
    rw [hrun]
    rfl
   ·rw [dn, List.length_append]
   ·rw [List.length_append, h2, List.length_drop]; omega
   ·rw [dn, List.length_append]; exact hroom
   ·rw [← aF (size := 1) (fun r hr => (eE hr).1), List.take_left]
   ·exact vQ (vs := cs) hm
  ·refine grown cap (dp l).flatten rfl (by omega) [(r, .cells cs.toArray e (0, 0))] hm ?_
   have hrun := run_append_grow_string (P := P) w t u ty e i (.int .u8 0) ht hu hi hz ⟨r, 0, none⟩ l.length cap (dp l).flatten (by rw [aF (size := 1) (fun r hr => (eE hr).1), dn, hs1]) (fun j u hj => ?_) ⟨s.toArray⟩ (by rw [hsz]; omega) (by rw [hsz]; omega) (by rw [hby]; exact growslice_fits (by rw [hsz]; omega) (by rw [hsz]; omega))
   ·rw [hsz] at hrun
    exact hrun
   ·exact (hown (by simp)).cells (g := r) rfl j u hj
end Go.Sx
namespace Go.Proofs.YtamgiojcbdbokaaGreatDoor
open Go Go.Sx
open Go.Sx (Own)
set_option maxRecDepth 100000
set_option maxHeartbeats 1000000
abbrev mj : TypeId := 94
theorem AU {k : Nat} {p v : Value} {T : TypeId} {O1 : Go.Sx.Own} (H : Heap) : Reads H ((k, .cells #[p, v] T (0, 0)) :: O1) (pP k) 1 [p] := .inr ⟨⟨k, 0, none⟩, #[p, v], T, rfl, rfl, List.mem_cons_self, rfl, rfl⟩
theorem AT {k : Nat} {p v : Value} {T : TypeId} {O1 : Go.Sx.Own} (H : Heap) : Reads H ((k, .cells #[p, v] T (0, 0)) :: O1) (bH (pP k) 1) 1 [v] := .inr ⟨⟨k, 1, none⟩, #[p, v], T, rfl, rfl, List.mem_cons_self, rfl, rfl⟩
theorem rP : ∃ j, PP.info? mj = some j ∧ j.size = 2 := by
 have h : (PP.info? mj).map (·.size) = some 2 := by kernel_rfl
 exact Option.map_eq_some_iff.1 h
theorem s7 {w : World} {H : Heap} {k : Nat} {p v : Value} {F : Go.Sx.Own} (hm : Models w H ((k, .cells #[p, v] mj (0, 0)) :: F)) : w.shape? k = some (mj, 2) := by
 have h : w.heap[k]? = some (.cells #[p, v] mj (0, 0)) := (hm.own (k, .cells #[p, v] mj (0, 0)) (by simp)).1
 simp [World.shape?, h]
theorem AS {w : World} {H : Heap} {k : Nat} {p v : Value} {F : Go.Sx.Own} (hm : Models w H ((k, .cells #[p, v] mj (0, 0)) :: F)) : ((PrimOp.convert 91 159).sem [pP k]).run PP w = .ok (.value (pP k)) w := by
 obtain ⟨j, hj, hs⟩ := rP
 have := Go.Lib.run_to_unsafe (P := PP) (src := 91) (dst := 159) (t := mj) w ⟨k, 0, none⟩ (by kernel_rfl) (by kernel_rfl) hj (by omega) (s7 hm) (by show 0 < 2; omega)
 simp only [PrimOp.sem]
 rw [Sem.run_bind]
 show Result.andThen ((convert 91 159 (.pointer (some ⟨k, 0, none⟩))).run PP w) _ = _
 rw [this]
 rfl
theorem AV {w : World} {H : Heap} {k : Nat} {p v : Value} {F : Go.Sx.Own} (hm : Models w H ((k, .cells #[p, v] mj (0, 0)) :: F)) : ((PrimOp.convert 159 91).sem [pP k]).run PP w = .ok (.value (pP k)) w := by
 obtain ⟨j, hj, hs⟩ := rP
 have := Go.Lib.run_from_unsafe (P := PP) (src := 159) (dst := 91) (u := mj) w ⟨k, 0, none⟩ (by kernel_rfl) (by kernel_rfl) hj (s7 hm) (by kernel_rfl)
 simp only [PrimOp.sem]
 rw [Sem.run_bind]
 show Result.andThen ((convert 159 91 (.pointer (some ⟨k, 0, none⟩))).run PP w) _ = _
 rw [this]
 rfl
theorem AW (k : Nat) (w : World) : ((PrimOp.intr 92).sem [pP k]).run PP w = .ok (.value (pP k)) w :=
 yQ Tryz.func92 (by kernel_rfl) (by kernel_rfl) (by kernel_rfl) (e := Extern.AbiNoEscape.same) (by kernel_rfl) (fun _ => rfl) w
section
open Go.RowKit Go.Shelf
theorem y3 {k : Nat} {v : Value} (H : Heap) : RetO PP bD [pP k] H [(k, .cells #[pP k, v] mj (0, 0))] (.tuple #[]) := by
 refine eG fun w F hm => ?_
 obtain ⟨j, hj, hjs⟩ := rP
 have hbk : w.heap[k]? = some (.cells #[pP k, v] mj (0, 0)) := (hm.own (k, .cells #[pP k, v] mj (0, 0)) (by simp)).1
 have h0 : w.cell? ⟨k, 0, none⟩ = some (.pointer (some ⟨k, 0, none⟩)) := by
  rw [Lib.cell_of_heap hbk]; rfl
 have mixed : Tryz.prog.follows .mixedOrders = true := mixed
 have t91 : Tryz.prog.underlying 91 = some (.pointer mj) := by kernel_rfl
 show Calls Tryz.prog 59 #[.pointer (some ⟨k, 0, none⟩)] w _
 go_enter Tryz.func59, Tryz.ntmps59
 go_wp2
 rw [Lib.run_neq_ptr_same w _ t91 hj]
 go_wp2
 go_end0
 exact ⟨rfl, fun _ _ => rfl, rfl⟩
end
theorem um {k : Nat} {p v : Value} (hp : p = .pointer none ∨ p = pP k) (H : Heap) : Triple PP bD [pP k] H [(k, .cells #[p, v] mj (0, 0))] fun r H' O' => r = .tuple #[] ∧ O' = [(k, .cells #[pP k, v] mj (0, 0))] := by
 rcases hp with rfl | rfl
 rotate_left
 ·exact y3 H
 refine eS (vs := [pP k]) (by kernel_rfl) ⟨rfl, trivial⟩ ?_
 simp only [cQ]
 refine au rfl (au rfl ?_)
 refine ao (vs := [.pointer none]) (AU H) rfl ⟨rfl, trivial⟩ ?_
 ·refine aa (.bool true) rfl (ai (fun _ => ?_) (fun hd => by cases hd))
  refine ra (fun w F hm => AS (by simpa using hm)) rfl (vs := [pP k]) ⟨rfl, trivial⟩ ?_
  refine yE (fun w => AW k w) rfl (vs := [pP k]) ⟨rfl, trivial⟩ ?_
  refine ra (fun w F hm => AV (by simpa using hm)) rfl (vs := [pP k]) ⟨rfl, trivial⟩ ?_
  refine au rfl (au rfl (au rfl ?_))
  refine ⟨_, ⟨⟨k, 0, none⟩, #[.pointer none, v], mj, [], rfl, rfl, List.Perm.refl _, by show 0 + 1 ≤ 2; omega, rfl⟩, ?_⟩
  exact af ⟨rfl, rfl⟩
theorem vn {P : Program} {f : FuncId} {args : List Value} {H : Heap} {O : Go.Sx.Own} {k : Nat} {T : TypeId} {cells : List Value} {R : Value → List Value → Go.Sx.Own → Prop} {shp : Shp} {K : List Value → List (List Value) → Heap → Go.Sx.Own → Prop}
  (h : Triple P f args H ((k, .cells cells.toArray T (0, 0)) :: O) fun v _ O' => ∃ cs O3, O' = (k, .cells cs.toArray T (0, 0)) :: O3 ∧ cs.length = cells.length ∧ Ones cs ∧ R v cs O3)
  (hk : ∀ v cs H' O3, R v cs O3 → Heap.le H H' → ∃ vs, shp.open v = some vs ∧ Ones vs ∧ K vs [cs] H' O3) : cX (fun H1 O1 R => Triple P f args H1 O1 R) false [] [⟨k, T, cells⟩] shp K H O := by
 intro _
 refine ⟨H, O, [], _, Ghost.perm (by simp), h, ?_⟩
 rintro v H' O' ⟨cs, O3, rfl, hl, h1, hr⟩ hle
 obtain ⟨vs, a, b, c⟩ := hk v cs H' O3 hr hle
 exact ⟨vs, [cs], O3, a, b, ⟨hl, h1, trivial⟩, rfl, by simpa using c⟩
theorem DV : ∃ i, PP.info? 5 = some i ∧ i.zero = some (.int .u8 0) ∧ i.size = 1 ∧ i.bytes = 1 := by
 have h : (PP.info? 5).map (fun i => (i.zero, i.size, i.bytes)) = some (some (.int .u8 0), 1, 1) := by kernel_rfl
 obtain ⟨i, hi, e⟩ := Option.map_eq_some_iff.1 h
 simp only [Prod.mk.injEq] at e
 exact ⟨i, hi, e.1, e.2.1, e.2.2⟩
theorem rJ {k : Nat} {p v : Value} (hp : p = .pointer none ∨ p = pP k) {l s : List UInt8} (hn : l.length + s.length ≤ 1000000) (H : Heap) {O1 : Go.Sx.Own} (h : OSl 5 1 v (dp l) O1) :
  Triple PP cB [pP k, Str s] H ((k, .cells [p, v].toArray mj (0, 0)) :: O1) fun r _ O' => ∃ cs O3, O' = (k, .cells cs.toArray mj (0, 0)) :: O3 ∧ cs.length = [p, v].length ∧ Ones cs ∧
   (r = .tuple #[iV s.length, .nilIface] ∧ ∃ v', cs = [pP k, v'] ∧ OSl 5 1 v' (dp (l ++ s)) O3) := by
 refine eo (vs := [pP k, Str s]) (by kernel_rfl) ⟨rfl, rfl, trivial⟩ ?_
 simp only [cz]
 refine cw (O1 := [(k, .cells #[p, v] mj (0, 0))]) (O2 := O1) (List.Perm.refl _) (um hp H) ?_
 rintro r H1 _ ⟨rfl, rfl⟩ l1
 refine ⟨[], rfl, trivial, ?_⟩
 refine au rfl (au rfl ?_)
 refine ao (vs := [v]) (AT H1) rfl ⟨h.one, trivial⟩ ?_
 obtain ⟨i, hi, hz, hs, hb⟩ := DV
 have ha := wu (P := PP) (ty := 92) (H := H1) Bh Dt hi hz hs hb h (s := s) (by omega)
 intro _
 refine ⟨H1, O1, [(k, .cells #[pP k, v] mj (0, 0))], _, Ghost.perm (List.perm_append_comm (l₁ := [_]) (l₂ := O1)), ha, ?_⟩
 rintro v' H2 O2 ⟨rfl, h2⟩ l2
 refine ⟨[v'], [], O2, rfl, ⟨h2.one, trivial⟩, trivial, rfl, ?_⟩
 refine au rfl (au rfl (au rfl ?_))
 refine ⟨_, ⟨⟨k, 1, none⟩, #[pP k, v], mj, O2, rfl, rfl, List.perm_append_comm (l₁ := O2) (l₂ := [_]), by show 1 + 1 ≤ 2; omega, rfl⟩, ?_⟩
 refine aa _ (iG s) ?_
 exact af ⟨[pP k, v'], O2, rfl, rfl, ⟨rfl, h2.one, trivial⟩, rfl, v', rfl, h2⟩
section
open Go.RowKit Go.Shelf
set_option maxHeartbeats 2000000 in
theorem ya {k : Nat} {p v : Value} (hp1 : p.oneCell' = true) {l : List UInt8} (hl0 : l ≠ []) (hlen : l.length ≤ 1000000) (H : Heap) {O1 : Go.Sx.Own} (h : OSl 5 1 v (dp l) O1) :
  Triple PP 41 [pP k] H ((k, .cells [p, v].toArray mj (0, 0)) :: O1) fun r _ O' => ∃ cs O3, O' = (k, .cells cs.toArray mj (0, 0)) :: O3 ∧ cs.length = [p, v].length ∧ Ones cs ∧ (cs = [p, v] ∧ r = Str l ∧ O3 = []) := by
 intro w F hm
 rcases h with ⟨_, h0, _⟩ | ⟨g, cs, cap, rfl, rfl, hcl, hlc, hcap, hrl, ho, htk⟩
 ·cases l with
  | nil => exact absurd rfl hl0
  | cons a l => cases h0
 rw [dn] at hlc htk hm ⊢
 have hbk : w.heap[k]? = some (.cells #[p, .slice (some ⟨g, 0, none⟩) l.length cap] mj (0, 0)) := (hm.own (k, .cells #[p, .slice (some ⟨g, 0, none⟩) l.length cap] mj (0, 0)) (by simp)).1
 have hbg : w.heap[g]? = some (.cells cs.toArray 5 (0, 0)) := (hm.own (g, .cells cs.toArray 5 (0, 0)) (by simp)).1
 have hlp : 0 < l.length := List.length_pos_iff.2 hl0
 have c1 : w.drew.cell? ⟨k, 1, none⟩ = some (.slice (some ⟨g, 0, none⟩) l.length cap) := by
  have : w.drew.heap[k]? = some (.cells #[p, .slice (some ⟨g, 0, none⟩) l.length cap] mj (0, 0)) := hbk
  rw [Lib.cell_of_heap this]; rfl
 have hSD : (Builtin.unsafeSliceData_ #[92] 130 #[.slice (some ⟨g, 0, none⟩) l.length cap]).run PP w.drew = .ok (.pointer (some ⟨g, 0, none⟩)) w.drew :=
  Lib.run_unsafeSliceData_row _ _ _ _ _ _ (by omega)
 have hUS : (Builtin.unsafeString_ #[130, 3] 9 #[.pointer (some ⟨g, 0, none⟩), .int .i64 l.length]).run PP w.drew = .ok (.string ⟨l.toArray⟩) (w.drew.freeze ⟨g, 0, none⟩ l.length) := by
  refine Lib.run_unsafeString_row w.drew 130 3 9 5 (by kernel_rfl) (by kernel_rfl) g cs.toArray.size (by have hg' : w.drew.heap[g]? = some (.cells cs.toArray 5 (0, 0)) := hbg; simp [World.shape?, hg']) l hl0 (by simp; omega) (by omega) ?_
  intro j x hx
  have hj : cs[j]? = some (.int .u8 x.toNat) := by
   have hjl : j < l.length := (List.getElem?_eq_some_iff.1 hx).1
   have e : (cs.take l.length)[j]? = cs[j]? := by rw [List.getElem?_take, if_pos hjl]
   rw [← e, show cs.take l.length = (dp l).flatten by simpa using htk, qK]
   simp [Go.Lib.strCells, hx]
  have hg' : w.drew.heap[g]? = some (.cells cs.toArray 5 (0, 0)) := hbg
  have ea : ({ block := g, off := 0, spot := none } : Addr).add j = ⟨g, j, none⟩ := by
   unfold Addr.add
   split <;> simp_all
  rw [ea, Lib.cell_of_heap hg']
  simpa using hj
 have hmod : Models (w.drew.freeze ⟨g, 0, none⟩ l.length) H ((k, .cells #[p, .slice (some ⟨g, 0, none⟩) l.length cap] mj (0, 0)) :: F) := by
  have hgone : ∀ j, j ≠ g → (w.drew.freeze ⟨g, 0, none⟩ l.length).heap[j]? = w.heap[j]? := fun j hj => by
   unfold World.freeze
   split
   ·rfl
   ·simp only [Array.getElem?_modify]
    rw [if_neg (Ne.symm hj)]
    rfl
  have hHg : H g = none := (hm.own (g, .cells cs.toArray 5 (0, 0)) (by simp)).2
  have hnd := hm.nodup
  simp only [List.cons_append, List.nil_append, List.map_cons, List.nodup_cons, List.mem_cons, not_or] at hnd
  refine ⟨fun b o hb => ?_, fun q hq => ?_, ?_, ?_⟩
  ·rw [hgone b (by rintro rfl; rw [hHg] at hb; cases hb)]; exact hm.pers b o hb
  ·have hq' : q ∈ (k, .cells [p, .slice (some ⟨g, 0, none⟩) l.length cap].toArray mj (0, 0)) :: [(g, .cells cs.toArray 5 (0, 0))] ++ F := by
    rcases List.mem_cons.1 hq with rfl | hq
    ·simp
    ·simp [hq]
   have hqg : q.1 ≠ g := by
    rcases List.mem_cons.1 hq with rfl | hqF
    ·exact hnd.1.1
    ·intro e
     exact hnd.2.1 (List.mem_map.2 ⟨q, hqF, e⟩)
   rw [hgone _ hqg]
   exact hm.own q hq'
  ·simp only [List.map_cons, List.nodup_cons]
   exact ⟨hnd.1.2, hnd.2.2⟩
  ·have : cJ (w.drew.freeze ⟨g, 0, none⟩ l.length) = cJ w := by
    unfold World.freeze
    split <;> rfl
   rw [this]; exact hm.env
 have mixed : Tryz.prog.follows .mixedOrders = true := mixed
 show Calls Tryz.prog 41 #[.pointer (some ⟨k, 0, none⟩)] w _
 go_enter Tryz.func41, Tryz.ntmps41
 go_wp2
 go_region_o
 all_goals (go_wp2; go_ret; exact ⟨_, H, _, rfl, ⟨[p, .slice (some ⟨g, 0, none⟩) l.length cap], [], rfl, rfl, ⟨hp1, rfl, trivial⟩, rfl, rfl, rfl⟩, Heap.le_refl H, hmod⟩)
end
abbrev IP (n : Nat) (R : Nat → Value → Value → Heap → Go.Sx.Own → Prop) : List Value → Heap → Go.Sx.Own → Prop := fun vs H O => ∃ (i : Nat) (p v : Value), vs = [iV i, p, v] ∧ i ≤ n ∧ R i p v H O
abbrev MP (n : Nat) : List Value → Heap → Go.Sx.Own → Nat := fun vs _ _ => match g vs 0 with | .int _ k => n - k.toNat | _ => 0
theorem wa {P : Program} {lab key : Nat} {p0 v0 : Value} {body : (List Value → Heap → Go.Sx.Own → Prop) → List Value → Tree} {H : Heap} {O : Go.Sx.Own} {Q : Value → Heap → Go.Sx.Own → Prop} (n : Nat) (R : Nat → Value → Value → Heap → Go.Sx.Own → Prop)
  (h0 : R 0 p0 v0 H O) (step : ∀ i p v H' O', i ≤ n → Heap.le H H' → R i p v H' O' → (body (zC (IP n R) (MP n) (n - i)) [iV i, p, v]).den P Q H' O') :
  (Tree.loop lab key [iV 0, p0, v0] body).den P Q H O := by
 refine iY (IP n R) (MP n) ⟨0, p0, v0, rfl, Nat.zero_le _, h0⟩ ?_
 rintro vs H' O' _ _ hle ⟨i, p, v, rfl, hi, hr⟩
 exact step i p v H' O' hi hle hr
theorem ud {P : Program} {lab n i : Nat} {R : Nat → Value → Value → Heap → Go.Sx.Own → Prop} {p v : Value} {eqs : List (List Value × List Value)} {H : Heap} {O : Go.Sx.Own} {Q : Value → Heap → Go.Sx.Own → Prop} (he : Eqs eqs) (hi : i < n) (hr : R (i + 1) p v H O) :
  (Tree.cont lab (zC (IP n R) (MP n) (n - i)) [iV ((i + 1 : Nat) : Int), p, v] eqs).den P Q H O := by
 refine fF he ⟨i + 1, p, v, rfl, hi, hr⟩ ?_
 show n - ((i + 1 : Nat) : Int).toNat < n - i
 simp; omega
def oe (cs : List CdF) (l : List Cp) : List UInt8 × Int := if (aJ cs l).2 = 0 then (od cs l, 0) else ([], (aJ cs l).2)
theorem BJ {H : Heap} {p : Value} {cs : List CdF} (h : PoolK H p cs) {v : Value} {l : List Cp} (hl : nR H v l) (hb : l.length ≤ 1000000) : RetO PP pW [p, v] H [] (.tuple #[Str (oe cs l).1, iV (oe cs l).2]) := by
 obtain ⟨h, hk⟩ := h
 refine q5 (vs := [p, v]) (by kernel_rfl) ⟨h.one, hl.one, trivial⟩ ?_
 simp only [pF]
 obtain ⟨vlen, _⟩ := ly hl
 refine al (rM h hl hb) rfl (vs := [iV (aJ cs l).1, iV (aJ cs l).2]) ⟨rfl, rfl, trivial⟩ fun H1 l1 => ?_
 refine aa _ (eH _ _) (ai (fun hd => ?_) (fun hd => ?_))
 ·have he : (aJ cs l).2 ≠ 0 := by simpa using hd
  exact af ⟨by rw [oe, if_neg he]; rfl, rfl⟩
 have he : (aJ cs l).2 = 0 := by simpa using hd
 have hR : oe cs l = (od cs l, 0) := by rw [oe, if_pos he]
 have hval := (zv he).1
 have h := h.le l1
 have hl := hl.le l1
 have hll : (l.length : Int) ≤ 60 := by have := (tz hval.1).2; have := hval.2.2.2; omega
 refine aj fun r0 => ?_
 refine aa _ vlen ?_
 refine wa l.length (fun i p v H' O' => (p = .pointer none ∨ p = pP r0) ∧ OSl 5 1 v (dp (od cs (l.take i))) O' ∧ (od cs (l.take i)).length ≤ 36 * i ∧ Heap.le H1 H') ⟨.inl rfl, OSl.nil _ _, Nat.le_refl _, Heap.le_refl _⟩ ?_
 rintro i q bv H2 O2 hi - ⟨hp, hO, hlen, l2⟩
 refine aa _ (aC _ _) (ai (fun hlt => ?_) (fun hge => ?_))
 ·have hlt : i < l.length := by have := of_decide_eq_true hlt; omega
  obtain ⟨a, k1, k2, _, _⟩ := uc O2 (hl.le l2) hlt
  have hs := wG (cs := cs) hlt
  have hx := hval.1 _ (List.getElem_mem hlt)
  have hll2 := yN hk hx
  generalize l[i] = x at *
  obtain ⟨hin, w1, w2, _⟩ := hx
  have hnm := (zk (hk _ (vm hin))).2
  obtain ⟨n, hn⟩ : ∃ n : Nat, x.n = (n : Int) := ⟨x.n.toNat, by omega⟩
  have hnn : x.n.toNat = n := by omega
  have hd := xM (n := n) (by omega)
  have hlv : rk cs x = Go.Lib.decDigits n ++ [32] ++ (hU cs x.card).nm ++ [10] := by rw [rk, hnn]
  refine aa _ k1 (ao k2 rfl ⟨rfl, rfl, trivial⟩ (aj fun r1 => ?_))
  refine ae (ae ?_)
  refine bn (rK (h.le l2) x.card) ?_
  rintro _ H3 _ ⟨⟨cells, rfl, c1, c2⟩, rfl⟩ l3
  have hc := c2.nm.1
  refine ⟨cells ++ [iV (fH cs x.card)], nT c1, lP c2.ones ⟨rfl, trivial⟩, aj fun r2 => ?_⟩
  refine ae (ae (ae ?_))
  rw [show g x.row 1 = iV (n : Int) from by rw [← hn]; rfl]
  refine al (AK n (by omega) _ _) rfl ⟨rfl, trivial⟩ fun H4 l4 => ?_
  rw [show g (cells ++ [iV (fH cs x.card)]) 0 = Str (hU cs x.card).nm from (wU c1 (by omega)).trans hc]
  have hi60 : i < 60 := by omega
  refine aa _ (tB (b := [32]) (by simp; omega)) ?_
  refine aa _ (tB (by simp; omega)) ?_
  refine aa _ (tB (b := [10]) (by simp; omega)) ?_
  refine vn (k := r0) (T := 94) (cells := [q, bv]) (rJ hp (by rw [← hlv]; omega) H4 hO) ?_
  rintro _ _ H5 O5 ⟨rfl, v', rfl, hO5⟩ l5
  refine ⟨[iV _, .nilIface], rfl, ⟨rfl, rfl, trivial⟩, ?_⟩
  refine aa _ (aG (by omega)) (ud (by simp [Eqs, E]) hlt ⟨.inr rfl, ?_, ?_, Heap.le_trans l2 (Heap.le_trans l3 (Heap.le_trans l4 l5))⟩)
  ·rw [hs, hlv]; exact hO5
  ·rw [hs, List.length_append]; omega
 ·have hge : l.length ≤ i := by have := of_decide_eq_false hge; omega
  rw [List.take_of_length_le hge] at hO hlen
  have hne : od cs l ≠ [] := by
   cases l with
   | nil => exact absurd hval.2.2.1 (by decide)
   | cons x l => rw [od, List.flatMap_cons, rk]; simp
  refine vn (k := r0) (T := 94) (cells := [q, bv]) (ya (by rcases hp with rfl | rfl <;> rfl) hne (by omega) H2 hO) ?_
  rintro _ _ H5 _ ⟨rfl, rfl, rfl⟩ l5
  refine ⟨[Str (od cs l)], rfl, ⟨rfl, trivial⟩, ?_⟩
  exact af ⟨by rw [hR]; rfl, rfl⟩
theorem Av {H : Heap} {p : Value} {cs : List CdF} (h : PoolK H p cs) {v : Value} {l : List Cp} (hl : nR H v l) (hb : l.length ≤ 1000000) (s : List UInt8) (e : Int) : RetO PP dj [p, v, Str s, iV e] H [] (.bool ((oe cs l).1 == s && (oe cs l).2 == e)) := by
 refine jA (vs := [p, v, Str s, iV e]) (by kernel_rfl) ⟨h.1.one, hl.one, rfl, rfl, trivial⟩ ?_
 simp only [fe]
 refine al (BJ h hl hb) rfl (vs := [Str (oe cs l).1, iV (oe cs l).2]) ⟨rfl, rfl, trivial⟩ fun H1 l1 => ?_
 refine aa _ (tA _ _) ?_
 refine ab (ab (aa _ (an _ _) (ab (aa _ (ap _ _) ?_))))
 exact af ⟨rfl, rfl⟩
def sM : List Cp := [⟨0, 18⟩, ⟨1, 4⟩]
theorem kv1 : aJ aI sM = (-1, 0) := by decide +kernel
theorem kv2 : aJ aI [⟨0, 18⟩, ⟨1, 5⟩] = (1, 7) := by decide +kernel
theorem kv3 : aJ aI [⟨0, 18⟩, ⟨3, 1⟩] = (1, 3) := by decide +kernel
theorem kv4 : aJ aI [⟨1, 4⟩, ⟨0, 18⟩] = (1, 2) := by decide +kernel
theorem kv5 : aJ aI [⟨0, 0⟩] = (0, 2) := by decide +kernel
theorem kv6 : aJ aI [⟨0, 19⟩] = (-1, 4) := by decide +kernel
theorem kv7 : aJ aI [⟨0, 60⟩, ⟨2, 1⟩] = (-1, 5) := by decide +kernel
theorem kv8 : aJ aI [⟨0, 61⟩] = (0, 2) := by decide +kernel
theorem CP : cL [2, 0, 0] = [0, 0, 2] := by simp [cL, List.mergeSort, List.MergeSort.Internal.splitInTwo, List.merge]
theorem kv9 : ofV [2, 0, 0] = ([⟨0, 2⟩, ⟨2, 1⟩], 0) := by
 rw [ofV, if_neg (by decide), if_neg (by decide), CP]
 decide +kernel
theorem DU : ofV [-1] = ([], 2) := by decide +kernel
theorem DT : od aI sM = [49, 56, 32, 87, 101, 108, 108, 10, 52, 32, 74, 111, 108, 116, 10] := by decide +kernel
theorem DR : qn aI 1 sM = 18 := by decide +kernel
theorem DO : qn aI 0 sM = 22 := by decide +kernel
theorem ze (a b : Int) : lk [⟨1, a⟩, ⟨0, b⟩] = [⟨0, b⟩, ⟨1, a⟩] := vB (List.Perm.swap _ _ _) (b := -1) ⟨show (-1 : Int) < 0 by decide, show (0 : Int) < 1 by decide, trivial⟩
abbrev s14 : List UInt8 := [52, 32, 74, 111, 108, 116, 10, 49, 56, 32, 87, 101, 108, 108, 10]
theorem DN : cM aI s14 = (sM, 0, 0) := by
 have h : cN aI (cG s14.length s14) [] 0 = .inl [⟨1, 4⟩, ⟨0, 18⟩] := by decide +kernel
 rw [cM, h]
 simp only []
 rw [ze, if_neg (by decide +kernel)]
 rfl
theorem DL : cM aI [49, 56, 32, 87, 101, 108, 108, 10, 52, 32, 106, 111, 108, 116, 10] = ([], 2, 9) := by decide +kernel
theorem DK : cM aI [49, 56, 32, 87, 101, 108, 108, 10, 50, 32, 87, 101, 108, 108, 10] = ([], 2, 11) := by decide +kernel
theorem DJ : cM aI [48, 52, 32, 74, 111, 108, 116, 10] = ([], 1, 6) := by decide +kernel
abbrev s18 : List UInt8 := [53, 32, 74, 111, 108, 116, 10, 49, 56, 32, 87, 101, 108, 108, 10]
theorem DI : cM aI s18 = ([], 0, 7) := by
 have h : cN aI (cG s18.length s18) [] 0 = .inl [⟨1, 5⟩, ⟨0, 18⟩] := by decide +kernel
 rw [cM, h]
 simp only []
 rw [ze, if_pos (by decide +kernel), show aJ aI [⟨0, 18⟩, ⟨1, 5⟩] = (1, 7) from kv2]
theorem DG : cM aI [] = ([], 0, 4) := by decide +kernel
theorem bo {P : Program} {f : FuncId} {args : List Value} {H : Heap} {O : Go.Sx.Own} {frz : List BV} {r : Value} {shp : Shp} {vs : List Value} {K : List Value → List (List Value) → Heap → Go.Sx.Own → Prop}
  (h : ∀ Hf, Heap.le H Hf → (∀ b ∈ frz, Hf b.r = some b.obj.2) → RetO P f args Hf [] r) (ho : shp.open r = some vs) (h1 : Ones vs) (hk : ∀ H', Heap.le H H' → (∀ b ∈ frz, H' b.r = some b.obj.2) → K vs [] H' O) :
  cX (fun H1 O1 R => Triple P f args H1 O1 R) false frz [] shp K H O := by
 intro hc
 have hf := eA hc
 refine ⟨H.insAll frz, [], O, _, Ghost.refl _ _, h _ (Heap.le_insAll frz H) hf, ?_⟩
 rintro v H' O' ⟨rfl, rfl⟩ hle
 exact ⟨vs, [], [], ho, h1, trivial, rfl, hk _ (Heap.le_trans (Heap.le_insAll frz H) hle) fun b hb => hle.1 _ _ (hf b hb)⟩
theorem hP {H : Heap} {r n : Nat} {T : TypeId} (l : List Cp) (hn : n = l.length) (h : H r = some (.cells (l.map Cp.row).flatten.toArray T (0, 0))) (hb : l.length < 1000) : nR H (.slice (some ⟨r, 0, none⟩) n n) l := by
 refine tI (by simpa using hn) h (fun row hr => ?_) (fun row hr => ?_) (by rw [List.length_map]; omega)
 ·obtain ⟨c, _, rfl⟩ := List.mem_map.1 hr; rfl
 ·obtain ⟨c, _, rfl⟩ := List.mem_map.1 hr; exact ⟨rfl, rfl, trivial⟩
theorem u6 {H : Heap} {r n : Nat} {T : TypeId} (l : List Int) (hn : n = l.length) (h : H r = some (.cells (bK l).flatten.toArray T (0, 0))) (hb : l.length < 1000) : Sl H 1 (.slice (some ⟨r, 0, none⟩) n n) (bK l) := by
 have hl : (bK l).length = l.length := by simp [bK]
 refine tI (hn.trans hl.symm) h (fun row hr => ?_) (fun row hr => ?_) (by omega)
 ·obtain ⟨c, _, rfl⟩ := List.mem_map.1 hr; rfl
 ·obtain ⟨c, _, rfl⟩ := List.mem_map.1 hr; exact ⟨rfl, trivial⟩
theorem mJ (H : Heap) : nR H (.slice none 0 0) [] := Sl.nil _ _
theorem gA {H : Heap} {p : Value} (h : PoolK H p aI) {v : Value} {l : List Cp} (hl : nR H v l) (hb : l.length ≤ 1000000) {i e : Int} (hv : aJ aI l = (i, e)) : RetO PP cU [p, v, iV i, iV e] H [] (.bool true) := by
 have := vp h.1 hl hb i e
 rw [hv] at this
 simpa using this
theorem zp {H : Heap} {v v' : Value} {zs : List Int} {l : List Cp} (hs : Sl H 1 v (bK zs)) (h' : nR H v' l) {e : Int} (hv : ofV zs = (l, e)) : RetO PP dG [v, v', iV e] H [] (.bool true) := by
 have := BI hs h' e
 rw [hv] at this
 simpa using this
theorem Af {H : Heap} {p : Value} {cs : List CdF} (h : PoolK H p cs) {v : Value} {l : List Cp} (hl : nR H v l) (hb : l.length ≤ 1000000) {s : List UInt8} {e : Int} (hv : oe cs l = (s, e)) : RetO PP dj [p, v, Str s, iV e] H [] (.bool true) := by
 have := Av h hl hb s e
 rw [hv] at this
 simpa using this
theorem u5 {H : Heap} {p : Value} {cs : List CdF} (h : PoolK H p cs) {v : Value} {l : List Cp} (hl : nR H v l) (hb : l.length ≤ 1000000) {k i e : Int} (hv : kS cs l k = (i, e)) : RetO PP cT [p, v, iV k, iV i, iV e] H [] (.bool true) := by
 have := y2 h.1 hl hb k i e
 rw [hv] at this
 simpa using this
theorem kC {H : Heap} {p v : Value} {cs : List CdF} (hp : PoolK H p cs) (hG : GlobOk H) {s : List UInt8} (hs : s.length ≤ 1000) {l : List Cp} (h' : nR H v l) {m e : Int} (hv : cM cs s = (l, m, e)) : RetO PP cR [p, Str s, v, iV m, iV e] H [] (.bool true) := by
 have := yZ hp.1 hG hs h' m e
 rw [hv] at this
 simpa using this
theorem Az {H : Heap} (hG : GlobOk H) : RetO PP ft [] H [] (.bool true) := by
 refine jB (vs := []) (by kernel_rfl) trivial ?_
 simp only [ff]
 refine bn (AA H) ?_
 rintro cv H1 _ ⟨hcv, rfl⟩ l1
 refine ⟨[cv], rfl, ⟨hcv.one, trivial⟩, ?_⟩
 have hG := hG.le l1
 refine bn (BH hcv) ?_
 rintro _ H2 _ ⟨⟨p, rfl, h⟩, rfl⟩ l2
 have hG := hG.le l2
 refine ⟨[p, iV 0], rfl, ⟨h.1.one, rfl, trivial⟩, ?_⟩
 have hpp : ah (.bin .eql .ptr) [p, .pointer none] = some (.bool false) := by
  obtain ⟨r, _, _, _, rfl, _⟩ := h.1
  rfl
 refine aa _ hpp ?_
 refine ab ?_
 refine aa _ (eH _ _) ?_
 refine ab ?_
 refine aa _ (av _ _) (ai (fun hd => by cases hd) (fun _ => ?_))
 refine aj fun r0 => ?_
 refine bo (r := .bool true) (fun Hf lf hf => gA (h.le lf) (hP sM rfl (hf _ List.mem_cons_self) (by decide)) (by decide) kv1) rfl ⟨rfl, trivial⟩ fun H3 l3 f3 => ?_
 have h := h.le l3
 have hG := hG.le l3
 have hg : nR H3 (.slice (some ⟨r0, 0, none⟩) 2 2) sM := hP sM rfl (f3 _ List.mem_cons_self) (by decide)
 refine aa _ (aA _) (ai (fun hd => by cases hd) (fun _ => ?_))
 refine aj fun r1 => ?_
 refine bo (r := .bool true) (fun Hf lf hf => gA (h.le lf) (hP [⟨0, 18⟩, ⟨1, 5⟩] rfl (hf _ List.mem_cons_self) (by decide)) (by decide) kv2) rfl ⟨rfl, trivial⟩ fun H4 l4 f4 => ?_
 have h := h.le l4
 have hG := hG.le l4
 have hg := hg.le l4
 refine aa _ (aA _) (ai (fun hd => by cases hd) (fun _ => ?_))
 refine aj fun r2 => ?_
 refine bo (r := .bool true) (fun Hf lf hf => gA (h.le lf) (hP [⟨0, 18⟩, ⟨3, 1⟩] rfl (hf _ List.mem_cons_self) (by decide)) (by decide) kv3) rfl ⟨rfl, trivial⟩ fun H5 l5 f5 => ?_
 have h := h.le l5
 have hG := hG.le l5
 have hg := hg.le l5
 refine aa _ (aA _) (ai (fun hd => by cases hd) (fun _ => ?_))
 refine aj fun r3 => ?_
 refine bo (r := .bool true) (fun Hf lf hf => gA (h.le lf) (hP [⟨1, 4⟩, ⟨0, 18⟩] rfl (hf _ List.mem_cons_self) (by decide)) (by decide) kv4) rfl ⟨rfl, trivial⟩ fun H6 l6 f6 => ?_
 have h := h.le l6
 have hG := hG.le l6
 have hg := hg.le l6
 refine aa _ (aA _) (ai (fun hd => by cases hd) (fun _ => ?_))
 refine aj fun r4 => ?_
 refine bo (r := .bool true) (fun Hf lf hf => gA (h.le lf) (hP [⟨0, 0⟩] rfl (hf _ List.mem_cons_self) (by decide)) (by decide) kv5) rfl ⟨rfl, trivial⟩ fun H7 l7 f7 => ?_
 have h := h.le l7
 have hG := hG.le l7
 have hg := hg.le l7
 refine aa _ (aA _) (ai (fun hd => by cases hd) (fun _ => ?_))
 refine aj fun r5 => ?_
 refine bo (r := .bool true) (fun Hf lf hf => gA (h.le lf) (hP [⟨0, 19⟩] rfl (hf _ List.mem_cons_self) (by decide)) (by decide) kv6) rfl ⟨rfl, trivial⟩ fun H8 l8 f8 => ?_
 have h := h.le l8
 have hG := hG.le l8
 have hg := hg.le l8
 refine aa _ (aA _) (ai (fun hd => by cases hd) (fun _ => ?_))
 refine aj fun r6 => ?_
 refine bo (r := .bool true) (fun Hf lf hf => gA (h.le lf) (hP [⟨0, 60⟩, ⟨2, 1⟩] rfl (hf _ List.mem_cons_self) (by decide)) (by decide) kv7) rfl ⟨rfl, trivial⟩ fun H9 l9 f9 => ?_
 have h := h.le l9
 have hG := hG.le l9
 have hg := hg.le l9
 refine aa _ (aA _) (ai (fun hd => by cases hd) (fun _ => ?_))
 refine aj fun r7 => ?_
 refine bo (r := .bool true) (fun Hf lf hf => gA (h.le lf) (hP [⟨0, 61⟩] rfl (hf _ List.mem_cons_self) (by decide)) (by decide) kv8) rfl ⟨rfl, trivial⟩ fun H10 l10 f10 => ?_
 have h := h.le l10
 have hG := hG.le l10
 have hg := hg.le l10
 refine aa _ (aA _) (ai (fun hd => by cases hd) (fun _ => ?_))
 refine aj fun r8 => ?_
 refine aj fun r9 => ?_
 refine bo (r := .bool true) (fun Hf lf hf => zp (u6 [2, 0, 0] rfl (hf _ List.mem_cons_self) (by decide)) (hP [⟨0, 2⟩, ⟨2, 1⟩] rfl (hf _ (List.mem_cons_of_mem _ List.mem_cons_self)) (by decide)) kv9) rfl ⟨rfl, trivial⟩ fun H11 l11 f11 => ?_
 have h := h.le l11
 have hG := hG.le l11
 have hg := hg.le l11
 refine aa _ (aA _) (ai (fun hd => by cases hd) (fun _ => ?_))
 refine aj fun r10 => ?_
 refine bo (r := .bool true) (fun Hf lf hf => zp (u6 [-1] rfl (hf _ List.mem_cons_self) (by decide)) (mJ _) DU) rfl ⟨rfl, trivial⟩ fun H12 l12 f12 => ?_
 have h := h.le l12
 have hG := hG.le l12
 have hg := hg.le l12
 refine aa _ (aA _) (ai (fun hd => by cases hd) (fun _ => ?_))
 refine bo (r := .bool true) (fun Hf lf hf => Af (h.le lf) (hg.le lf) (by decide) (s := [49, 56, 32, 87, 101, 108, 108, 10, 52, 32, 74, 111, 108, 116, 10]) (by rw [oe, if_pos (by rw [kv1]), DT])) rfl ⟨rfl, trivial⟩ fun H13 l13 f13 => ?_
 have h := h.le l13
 have hG := hG.le l13
 have hg := hg.le l13
 refine aa _ (aA _) (ai (fun hd => by cases hd) (fun _ => ?_))
 refine bo (r := .bool true) (fun Hf lf hf => u5 (h.le lf) (hg.le lf) (by decide) (by rw [kS, if_pos (by rw [kv1]), DR])) rfl ⟨rfl, trivial⟩ fun H14 l14 f14 => ?_
 have h := h.le l14
 have hG := hG.le l14
 have hg := hg.le l14
 refine aa _ (aA _) (ai (fun hd => by cases hd) (fun _ => ?_))
 refine bo (r := .bool true) (fun Hf lf hf => u5 (h.le lf) (hg.le lf) (by decide) (by rw [kS, if_pos (by rw [kv1]), DO])) rfl ⟨rfl, trivial⟩ fun H15 l15 f15 => ?_
 have h := h.le l15
 have hG := hG.le l15
 have hg := hg.le l15
 refine aa _ (aA _) (ai (fun hd => by cases hd) (fun _ => ?_))
 refine bo (r := .bool true) (fun Hf lf hf => kC (h.le lf) (hG.le lf) (s := s14) (by decide) (hg.le lf) DN) rfl ⟨rfl, trivial⟩ fun H16 l16 f16 => ?_
 have h := h.le l16
 have hG := hG.le l16
 have hg := hg.le l16
 refine ai (fun _ => ?_) (fun hd => by cases hd)
 refine bo (r := .bool true) (fun Hf lf hf => kC (h.le lf) (hG.le lf) (s := [49, 56, 32, 87, 101, 108, 108, 10, 52, 32, 106, 111, 108, 116, 10]) (by decide) (mJ _) DL) rfl ⟨rfl, trivial⟩ fun H17 l17 f17 => ?_
 have h := h.le l17
 have hG := hG.le l17
 have hg := hg.le l17
 refine ai (fun _ => ?_) (fun hd => by cases hd)
 refine bo (r := .bool true) (fun Hf lf hf => kC (h.le lf) (hG.le lf) (s := [49, 56, 32, 87, 101, 108, 108, 10, 50, 32, 87, 101, 108, 108, 10]) (by decide) (mJ _) DK) rfl ⟨rfl, trivial⟩ fun H18 l18 f18 => ?_
 have h := h.le l18
 have hG := hG.le l18
 have hg := hg.le l18
 refine ai (fun _ => ?_) (fun hd => by cases hd)
 refine bo (r := .bool true) (fun Hf lf hf => kC (h.le lf) (hG.le lf) (s := [48, 52, 32, 74, 111, 108, 116, 10]) (by decide) (mJ _) DJ) rfl ⟨rfl, trivial⟩ fun H19 l19 f19 => ?_
 have h := h.le l19
 have hG := hG.le l19
 have hg := hg.le l19
 refine ai (fun _ => ?_) (fun hd => by cases hd)
 refine bo (r := .bool true) (fun Hf lf hf => kC (h.le lf) (hG.le lf) (s := s18) (by decide) (mJ _) DI) rfl ⟨rfl, trivial⟩ fun H20 l20 f20 => ?_
 have h := h.le l20
 have hG := hG.le l20
 have hg := hg.le l20
 refine ai (fun _ => ?_) (fun hd => by cases hd)
 refine bo (r := .bool true) (fun Hf lf hf => kC (h.le lf) (hG.le lf) (s := []) (by decide) (mJ _) DG) rfl ⟨rfl, trivial⟩ fun H21 l21 f21 => ?_
 exact af ⟨rfl, rfl⟩
abbrev B5 (r : Value) (_ : Heap) (O' : Go.Sx.Own) : Prop := r = .bool true ∧ O' = []
theorem oW {H : Heap} (hG : GlobOk H) : (Tree.call false 9 [] [] [] .one fun l _ => .ret (g l 0) []).den PP B5 H [] :=
 al (Az hG) rfl ⟨rfl, trivial⟩ fun _ _ => af ⟨rfl, rfl⟩
theorem rG {H : Heap} {cv v : Value} {cs : List CdF} {l : List Cp} (hG : GlobOk H) (hc : CardsF H cv cs) (hl : nR H v l) : Triple PP dt [cv, v] H [] B5 := by
 refine fQ (vs := [cv, v]) (by kernel_rfl) ⟨hc.one, hl.one, trivial⟩ ?_
 simp only [dr]
 obtain ⟨vlen, _⟩ := ly hl
 refine bn (BE hc) ?_
 rintro _ H1 _ ⟨⟨p, rfl, hp, _⟩ | ⟨p, rfl, hp1⟩, rfl⟩ l1
 ·refine ⟨[p, .bool true], rfl, ⟨hp.1.one, rfl, trivial⟩, ?_⟩
  have hG := hG.le l1
  refine aa _ (aA _) ?_
  refine ab ?_
  refine aa _ vlen ?_
  refine ab ?_
  refine aa _ (bW _ _) ?_
  refine ab ?_
  refine aa _ (av _ _) (ai (fun _ => oW hG) (fun hd => ?_))
  have hb : l.length ≤ 100 := Int.ofNat_le.1 (by simpa using hd)
  refine al (zN (hc.le l1) (hl.le l1) (by omega) _) rfl (vs := [iV (aJ cs l).1, iV (aJ cs l).2]) ⟨rfl, rfl, trivial⟩ fun H2 l2 => ?_
  refine al (vp (hp.1.le l2) ((hl.le l1).le l2) (by omega) _ _) rfl ⟨rfl, trivial⟩ fun H3 l3 => ?_
  exact ai (fun _ => oW ((hG.le l2).le l3)) (fun hd => by simp at hd)
 ·refine ⟨[p, .bool false], rfl, ⟨hp1, rfl, trivial⟩, ?_⟩
  refine aa _ (aA _) ?_
  refine ab ?_
  refine aa _ vlen ?_
  refine ab ?_
  refine aa _ (bW _ _) ?_
  refine ab ?_
  exact aa _ (av _ _) (ai (fun _ => oW (hG.le l1)) (fun hd => by simp at hd))
end Go.Proofs.YtamgiojcbdbokaaGreatDoor
namespace Go.Proofs.YtamgiojcbdbokaaGreatDoor
open Go Go.Sx Go.ChangeShapes Go.WideShapes Go.ChangeAt Go.RowKit
set_option maxRecDepth 100000
set_option maxHeartbeats 1000000
theorem own : ownKnob Tryz.prog.godebug = none := by kernel_rfl
theorem Ae : laidOutB Tryz.prog = true := by kernel_rfl
theorem sOk : dl Tryz.prog = true := by kernel_rfl
abbrev Bv : Value := .slice none 0 0
abbrev tZ : List (String × DataW Unit) := [("math/bits.deBruijn32tab", Rows.laid_math_bits_deBruijn32tab), ("math/bits.deBruijn64tab", Rows.laid_math_bits_deBruijn64tab), ("internal/strconv.uint64pow10", Rows.laid_internal_strconv_uint64pow10), ("unicode/utf8.acceptRanges", Rows.laid_unicode_utf8_acceptRanges), ("strconv.ErrRange", Rows.laid_strconv_ErrRange), ("strconv.ErrSyntax", Rows.laid_strconv_ErrSyntax), ("unicode/utf8.first", Rows.laid_unicode_utf8_first)]
theorem tY {P : Program} {w : World} {n : String} {d : DataW Unit} : ∀ {l : List (String × DataW Unit)} {ps : List MemPlace}, DataW.LaidVars P w l ps → (n, d) ∈ l →
  ∃ g t cs fuel p, P.globalNamed n = some g ∧ (P.globals[g]?).map (·.type) = some t ∧ w.var? P n = some cs ∧ DataW.trod (fun _ => ()) P w 0 (fun _ => true) false fuel t cs.toList = some (d, p)
 | [], _, _, h => by cases h
 | (n', d') :: l, ps, h, hm => by
  obtain ⟨g, t, cs, fuel, p, q, h1, h2, h3, h4, h5, _⟩ := h
  rcases List.mem_cons.1 hm with e | hm
  ·cases e; exact ⟨g, t, cs, fuel, p, h1, h2, h3, h4⟩
  ·exact tY h5 hm
theorem rn {P : Program} {w : World} {fuel : Nat} {t : TypeId} {cs : List Value} {x : DataW Unit × List MemPlace} {m : Array (String × TypeId)} (ht : P.underlying t = some (.interface m)) (h : DataW.trod (fun _ => ()) P w 0 (fun _ => true) false fuel t cs = some x) :
  cs = [.nilIface] ∨ ∃ u v, cs = [.iface u v] := by
 cases fuel with
 | zero => simp [DataW.trod] at h
 | succ fuel =>
  unfold DataW.trod at h
  rw [ht] at h
  split at h <;> simp_all
theorem pn {W w : World} {O : Go.Sx.Own} (hm : Models w (mY W) O) {a : Addr} {v : Value} (h : W.cell? a = some v) : w.cell? a = some v := by
 unfold World.cell? at h ⊢
 cases hb : W.heap[a.block]? with
 | none => rw [hb] at h; cases h
 | some o =>
  have := hm.pers a.block o hb
  rw [this]; rw [hb] at h; exact h
theorem ym {P : Program} {W w : World} {O : Go.Sx.Own} (hm : Models w (mY W) O) {n : String} {cs : Array Value} (h : W.var? P n = some cs) : w.var? P n = some cs := by
 unfold World.var? at h ⊢
 cases hg : P.globalNamed n with
 | none => rw [hg] at h; cases h
 | some g =>
  rw [hg] at h
  simp only [Option.bind_some] at h ⊢
  cases hb : W.heap[g]? with
  | none => rw [hb] at h; cases h
  | some o =>
   have := hm.pers g o hb
   rw [this]; rw [hb] at h; exact h
theorem vc {W : World} {n : String} {g : Nat} {t : TypeId} {d : DataW Unit} {m : Array (String × TypeId)} (hg : Tryz.prog.globalNamed n = some g) (ht : (Tryz.prog.globals[g]?).map (·.type) = some t) (hu : Tryz.prog.underlying t = some (.interface m)) {ps : List MemPlace} (h : DataW.LaidVars Tryz.prog W tZ ps) (hm : (n, d) ∈ tZ) :
  ∃ ev, W.cell? ⟨g, 0, none⟩ = some ev ∧ (ev = .nilIface ∨ ∃ te pe, ev = .iface te pe) := by
 obtain ⟨g', t', cs, fuel, p, h1, h2, h3, h4⟩ := tY h hm
 obtain rfl := Option.some.inj (hg.symm.trans h1)
 obtain rfl := Option.some.inj (ht.symm.trans h2)
 have hc := World.var?_cell hg h3 0
 rcases rn hu h4 with e | ⟨u, v, e⟩
 ·have : cs[0]? = some .nilIface := by rw [← Array.getElem?_toList, e]; rfl
  exact ⟨_, hc.trans this, .inl rfl⟩
 ·have : cs[0]? = some (.iface u v) := by rw [← Array.getElem?_toList, e]; rfl
  exact ⟨_, hc.trans this, .inr ⟨u, v, rfl⟩⟩
theorem Ai {W : World} (h : laidMetH Tryz.prog tZ W) (hs : W.ShapedOpen Tryz.prog) : GlobOk (mY W) := by
 rw [MakeChecks.laidMetH_plain _ _ _ (by kernel_rfl)] at h
 obtain ⟨ps, hl, _, _⟩ := h
 obtain ⟨g, t, cs, fuel, p, h1, h2, h3, h4⟩ := tY (n := "internal/strconv.uint64pow10") (d := Rows.laid_internal_strconv_uint64pow10) hl (by simp)
 obtain rfl := Option.some.inj ((show Tryz.prog.globalNamed "internal/strconv.uint64pow10" = some 0 by kernel_rfl).symm.trans h1)
 have h4' : cs.toList = Go.Lib.pow10Tab.map fun z => Value.int .u64 z := by
  refine Go.Lib.cells_of_tab (e := 156) (n := 20) ?_ (by kernel_rfl) (by kernel_rfl) ?_ h4
  ·obtain rfl := Option.some.inj ((show (Tryz.prog.globals[0]?).map (·.type) = some 220 by kernel_rfl).symm.trans h2)
   kernel_rfl
  ·obtain rfl := Option.some.inj ((show (Tryz.prog.globals[0]?).map (·.type) = some 220 by kernel_rfl).symm.trans h2)
   kernel_rfl
 have ht : Go.Lib.TabIs Tryz.prog W "internal/strconv.uint64pow10" .u64 Go.Lib.pow10Tab := by
  unfold Go.Lib.TabIs
  rw [h3, ← h4', Array.toArray_toList]
 obtain ⟨m, hmx⟩ := cell_of_shapedOpen_int (g := 1) (t := 3) (zero := #[.int .i64 0]) (k := .i64) hs (Nat.le_of_ble_eq_true (by kernel_rfl)) (by kernel_rfl) rfl (by kernel_rfl) (by kernel_rfl) (by kernel_rfl)
 obtain ⟨e2, a2, b2⟩ := vc (n := "strconv.ErrSyntax") (g := 2) (t := 96) (d := Rows.laid_strconv_ErrSyntax) (by kernel_rfl) (by kernel_rfl) Tryz.underlying96 hl (by simp)
 obtain ⟨e3, a3, b3⟩ := vc (n := "strconv.ErrRange") (g := 3) (t := 96) (d := Rows.laid_strconv_ErrRange) (by kernel_rfl) (by kernel_rfl) Tryz.underlying96 hl (by simp)
 intro w O hm
 exact ⟨ym hm ht, ⟨m, pn hm hmx⟩, ⟨e2, pn hm a2, b2⟩, ⟨e3, pn hm a3, b3⟩⟩
theorem CZ {r : List Value} {i : Nat} {c : Value} (h : r[i]? = some c) : c = g r i := by rw [yV h]
theorem bB {H : Heap} {k : Nat} {t : TypeId} {ds : List Value} {ls : List TypeId} {n : Nat} (hl : jk PP n t = some ls) (hw : Wf PP H k t ds) (i : Nat) (l : TypeId) (hi : ls[i]? = some l) : Leaf PP H l (g ds i) := by
 obtain ⟨c, h1, h2⟩ := rl hl hw i l hi
 rw [← CZ h1]; exact h2
theorem dz {H : Heap} {c : Value} (h : Leaf PP H 3 c) : ∃ x, c = iV x := let ⟨x, e, _⟩ := h.int Tryz.underlying3; ⟨x, e⟩
theorem uC {H : Heap} {size : Nat} {v : Value} {rows : List (List Value)} (h : Sl H size v rows) {r : List Value} (hr : r ∈ rows) : r.length = size := by
 obtain ⟨i, hlt, rfl⟩ := List.getElem_of_mem hr
 obtain ⟨_, _, _, h3, _⟩ := h.idx (k := .i64) (List.getElem?_eq_getElem hlt)
 exact h3
theorem xq {α : Type} {f : α → List Value} : ∀ {rows : List (List Value)}, (∀ r ∈ rows, ∃ x, r = f x) → ∃ l : List α, rows = l.map f
 | [], _ => ⟨[], rfl⟩
 | r :: rs, h => by
  obtain ⟨l, hl⟩ := xq (rows := rs) fun x hx => h x (by simp [hx])
  obtain ⟨x, rfl⟩ := h r (by simp)
  exact ⟨x :: l, by rw [hl]; rfl⟩
theorem oz {α : Type} {R : List Value → α → Prop} : ∀ {rows : List (List Value)}, (∀ r ∈ rows, ∃ x, R r x) → ∃ l : List α, rows.length = l.length ∧ ∀ (i : Nat) (r : List Value) (x : α), rows[i]? = some r → l[i]? = some x → R r x
 | [], _ => ⟨[], rfl, fun i r k h => by simp at h⟩
 | r :: rs, key => by
  obtain ⟨ks, e1, e2⟩ := oz (rows := rs) fun x hx => key x (by simp [hx])
  obtain ⟨k, e3⟩ := key r (by simp)
  refine ⟨k :: ks, by simp [e1], fun i r' k' f1 f2 => ?_⟩
  cases i with
  | zero => simp at f1 f2; subst f1; subst f2; exact e3
  | succ i => exact e2 i r' k' (by simpa using f1) (by simpa using f2)
theorem qs {T : Type} {enc : TypeId × Value → T} {P : Program} {w : World} {base : Nat} {sp : Nat → Bool} {held : Bool} {t e : TypeId} {r : Reach} {v : Value} {d : DataW T} {p : List MemPlace} (hu : P.underlying t = some (.slice e)) (hsk : dl P = true) (htl : Nat.blt t P.types.size = true)
  (hv : Value.okWide P w r base t v) (h : DataW.Trod enc P w 0 sp held t v d p) : Leaf P (mY w) t v := by
 obtain ⟨a, len, cap, rfl⟩ := okWide_slice hu hv
 obtain ⟨fuel, hf⟩ := h
 exact ⟨fuel, kr hsk (Nat.le_of_ble_eq_true htl) hf⟩
theorem uZ : jk PP 5 77 = some [3, 3] := by kernel_rfl
theorem wZ {H : Heap} {v : Value} (h : Leaf PP H 23 v) : ∃ l, nR H v l := by
 obtain ⟨rows, hs, n, hw⟩ := h.slice Tryz.underlying23
 have hc : PP.cellsOf 77 = 2 := by kernel_rfl
 rw [hc] at hs
 obtain ⟨l, rfl⟩ := xq (f := Cp.row) (rows := rows) fun r hr => by
  have hl := uC hs hr
  obtain ⟨x0, e0⟩ := dz (bB uZ (hw r hr) 0 3 rfl)
  obtain ⟨x1, e1⟩ := dz (bB uZ (hw r hr) 1 3 rfl)
  match r, hl with
  | [_, _], _ =>
   refine ⟨⟨x0, x1⟩, ?_⟩
   simp only [g, List.getD_cons_zero, List.getD_cons_succ] at e0 e1
   rw [e0, e1]; rfl
 exact ⟨l, hs⟩
theorem j0 : jk PP 5 110 = some [107, 108, 3, 3, 63] := by kernel_rfl
theorem sg {H : Heap} {v : Value} (h : Leaf PP H 65 v) : ∃ l, Sl H 5 v (bP l) := by
 obtain ⟨rows, hs, n, hw⟩ := h.slice Tryz.underlying65
 have hc : PP.cellsOf 110 = 5 := by kernel_rfl
 rw [hc] at hs
 obtain ⟨l, rfl⟩ := xq (f := Eff.row) (rows := rows) fun r hr => by
  have hl := uC hs hr
  obtain ⟨x0, e0, _⟩ := (bB j0 (hw r hr) 0 _ rfl).int Tryz.underlying107
  obtain ⟨x1, e1, _⟩ := (bB j0 (hw r hr) 1 _ rfl).int Tryz.underlying108
  obtain ⟨x2, e2⟩ := dz (bB j0 (hw r hr) 2 3 rfl)
  obtain ⟨x3, e3⟩ := dz (bB j0 (hw r hr) 3 3 rfl)
  obtain ⟨x4, e4, _⟩ := (bB j0 (hw r hr) 4 _ rfl).int Tryz.underlying63
  match r, hl with
  | [_, _, _, _, _], _ =>
   refine ⟨⟨x0, x1, x2, x3, x4⟩, ?_⟩
   simp only [g, List.getD_cons_zero, List.getD_cons_succ] at e0 e1 e2 e3 e4
   rw [e0, e1, e2, e3, e4]; rfl
 exact ⟨l, hs⟩
theorem uY : jk PP 5 71 = some [69, 65] := by kernel_rfl
theorem wX {H : Heap} {v : Value} (h : Leaf PP H 66 v) : ∃ l, TrsF H v l := by
 obtain ⟨rows, hs, n, hw⟩ := h.slice Tryz.underlying66
 have hc : PP.cellsOf 71 = 2 := by kernel_rfl
 rw [hc] at hs
 obtain ⟨l, e1, e2⟩ := oz (R := fun r (t : Int × List Eff) => TrR H r t) (rows := rows) fun r hr => by
  have hl := uC hs hr
  obtain ⟨x0, e0, _⟩ := (bB uY (hw r hr) 0 _ rfl).int Tryz.underlying69
  obtain ⟨es, he⟩ := sg (bB uY (hw r hr) 1 _ rfl)
  match r, hl with
  | [_, s], _ =>
   simp only [g, List.getD_cons_zero, List.getD_cons_succ] at e0 he
   exact ⟨(x0, es), s, by rw [e0], he⟩
 exact ⟨l, rows, hs, e1, e2⟩
theorem cH : jk PP 8 68 = some [9, 43, 3, 3, 3, 3, 3, 63, 3, 3, 64, 65, 66, 3] := by kernel_rfl
theorem tO {H : Heap} {v : Value} (h : Leaf PP H 22 v) : ∃ cs, CardsF H v cs := by
 obtain ⟨rows, hs, n, hw⟩ := h.slice Tryz.underlying22
 have hc : PP.cellsOf 68 = 14 := by kernel_rfl
 rw [hc] at hs
 obtain ⟨l, e1, e2⟩ := oz (R := fun r (c : CdF) => CdRF H r c) (rows := rows) fun r hr => by
  have hl := uC hs hr
  have hw := hw r hr
  obtain ⟨x0, e0, _⟩ := (bB cH hw 0 _ rfl).str Tryz.underlying9
  obtain ⟨x1, e1, _⟩ := (bB cH hw 1 _ rfl).int Tryz.underlying43
  obtain ⟨x2, e2⟩ := dz (bB cH hw 2 3 rfl)
  obtain ⟨x3, e3⟩ := dz (bB cH hw 3 3 rfl)
  obtain ⟨x4, e4⟩ := dz (bB cH hw 4 3 rfl)
  obtain ⟨x5, e5⟩ := dz (bB cH hw 5 3 rfl)
  obtain ⟨x6, e6⟩ := dz (bB cH hw 6 3 rfl)
  obtain ⟨x7, e7, _⟩ := (bB cH hw 7 _ rfl).int Tryz.underlying63
  obtain ⟨x8, e8⟩ := dz (bB cH hw 8 3 rfl)
  obtain ⟨x9, e9⟩ := dz (bB cH hw 9 3 rfl)
  obtain ⟨x10, e10, _⟩ := (bB cH hw 10 _ rfl).int Tryz.underlying64
  obtain ⟨es, he⟩ := sg (bB cH hw 11 _ rfl)
  obtain ⟨ts, ht⟩ := wX (bB cH hw 12 _ rfl)
  obtain ⟨x13, e13⟩ := dz (bB cH hw 13 3 rfl)
  match r, hl with
  | [_, _, _, _, _, _, _, _, _, _, _, sv, tv, _], _ =>
   simp only [g, List.getD_cons_zero, List.getD_cons_succ] at e0 e1 e2 e3 e4 e5 e6 e7 e8 e9 e10 e13 he ht
   refine ⟨⟨x0, x1, x2, x3, x4, x5, x6, x7, x8, x9, x10, es, ts, x13⟩, sv, tv, ?_, he, ht⟩
   rw [e0, e1, e2, e3, e4, e5, e6, e7, e8, e9, e10, e13]; rfl
 exact ⟨l, rows, hs, e1, e2⟩
theorem wL (s : ByteArray) : (Value.string s) = Str s.data.toList := by
 obtain ⟨d⟩ := s
 rfl
section
variable {H : Type} {enc : TypeId × Value → H}
theorem qk {a : Assume} {C : Checked} {os : Os} {f : FuncId} {fn : Func} {s : ChangeSpec} {conds : List PathCond} {apart fresh handsOn again : Bool} {X : World → Array Value → Prop}
  (hX : ∀ (w w' : World) (args : Array Value), w.heap = w'.heap → X w args → X w' args)
  (own : ownKnob C.prog.godebug = none) (started : os.Started) (noInit : C.prog.inits.idxOf? f = none) (hfn : C.prog.funcs[f]? = some fn)
  (witness : ∃ (w : World) (tape : Tape) (i : Input), w.os = os ∧ (w.forCall tape i).Shaped C.prog ∧ i.vars = [] ∧ Input.okWide C.prog (w.forCall tape i) .any w.heap.size f i ∧
   ((s.pre enc C.prog fn conds apart (w.forCall tape i).memory i.args ∧ X (w.forCall tape i).memory i.args) ∧ sizedMet enc C.prog fn (OpenSpec.ofChange s) apart (w.forCall tape i).memory i.args) ∧ a.holds C.prog (lone (Frame.enter C.prog f i.args .normal) [] (w.forCall tape i)))
  (contract : ∀ (W : World) (base : Nat) (args : Array Value) (ds gs : List (DataW H)) (before : List MemPlace),
   (∀ (j : Nat) t v, fn.params[j]? = some t → args[j]? = some v → Value.okWide C.prog W .any base t v) →
   DataW.Whole enc C.prog fn.params.toList s.vars apart W args.toList ds gs before → X W args → W.ShapedOpen C.prog →
   Calls C.prog f args W fun e W' => ∃ v, e = .returned v ∧ s.post enc C.prog fn apart fresh handsOn again W args v W') :
  ReturnsInHanded a C os f .any (fun w args => (s.pre enc C.prog fn conds apart w args ∧ X w args) ∧ sizedMet enc C.prog fn (OpenSpec.ofChange s) apart w args) (s.post enc C.prog fn apart fresh handsOn again) := by
 refine returnsInHanded_of_calls own started noInit witness ?_
 intro w tape i _ hsh _ hok hpre _
 obtain ⟨_, _, _, fn', hfn', _, _, _, _, hval⟩ := hok
 have e : fn' = fn := Option.some.inj (hfn'.symm.trans hfn)
 subst e
 obtain ⟨⟨⟨ds, gs, before, hw, _⟩, hx⟩, _⟩ := hpre
 refine (contract (w.forCall tape i) w.heap.size i.args ds gs before hval (DataW.Whole.of_heap (w' := w.forCall tape i) (by rfl) hw) (hX _ _ _ (by rfl) hx) hsh).mono fun e W' ⟨v, he, hp⟩ => ?_
 subst he
 exact ChangeSpec.post_blind hp
end
end Go.Proofs.YtamgiojcbdbokaaGreatDoor
