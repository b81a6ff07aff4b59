/- Equal lists; the law's made, parses. -/
import Derived.Test.YtamgiojcbdbokaaGreatDoorSHB
import Derived.Test.YtamgiojcbdbokaaGreatDoorRows
import Derived.Test.YtamgiojcbdbokaaGreatDoorTie
import Derived.Test.YtamgiojcbdbokaaGreatDoorCards
import Derived.SevenTiedAt
import Derived.Carry
import Derived.Lay
import Derived.LaidMore
import Derived.ProofKit
import Derived.Stop.Joined
import Derived.Lib.LaidTab
import Derived.Shelf.Vars
namespace Go.Proofs.YtamgiojcbdbokaaGreatDoor
open Go Go.Sx
open Go.Sx (Own)
set_option maxRecDepth 100000
set_option maxHeartbeats 1000000
deriving instance DecidableEq for Cp
theorem EF (o p : Cp) : AT PP (.eqv .neq an false) [.agg o.row.toArray, .agg p.row.toArray] = some (.bool (!(o == p))) := by
 have e : AT PP (.eqv .neq an false) [.agg o.row.toArray, .agg p.row.toArray] = (uS [o.card == p.card, o.n == p.n]).map fun b => .bool (!b) := by kernel_rfl
 rw [e, mt]
 obtain ⟨a, b⟩ := o
 obtain ⟨c, d⟩ := p
 have : ((⟨a, b⟩ : Cp) == ⟨c, d⟩) = (a == c && b == d) := by
  rw [Bool.eq_iff_iff]; simp
 rw [this]
 simp
theorem xR {H : Heap} (O : Go.Sx.Own) {v v' : Value} {l l' : List Cp} (h : oo H v l) (h' : oo H v' l') : RetO PP gG [v, v'] H O (.bool (decide (l = l'))) := by
 refine j4 (vs := [v, v']) (by kernel_rfl) ⟨h.one, h'.one, trivial⟩ ?_
 simp only [gx]
 obtain ⟨lo, hB⟩ := lP h
 obtain ⟨lo', _⟩ := lP h'
 refine aa _ lo (aa _ lo' (aa _ (dY _ _) (ai (fun hb => af ⟨?_, rfl⟩) (fun hb => ?_))))
 ·rw [decide_eq_false]; rintro rfl; simp at hb
 have hll : l.length = l'.length := by simp at hb; omega
 refine aI l.length (fun i H' O' => O' = O ∧ Heap.le H H' ∧ l.take i = l'.take i) ⟨rfl, Heap.le_refl H, by simp⟩ ?_
 rintro i H4 O' hi - ⟨rfl, l4, hor⟩
 refine aa _ lo ?_
 refine aa _ (aA _ _) (ai (fun hb => ?_) (fun hb => ?_))
 ·have hlt : i < l.length := by simpa using hb
  have hlt' : i < l'.length := by omega
  obtain ⟨p, h1, h2, _, _⟩ := tD O' (h.le l4) hlt
  obtain ⟨q, k1, k2, _, _⟩ := tD O' (h'.le l4) hlt'
  refine aa _ h1 (ao h2 rfl ⟨rfl, rfl, trivial⟩ ?_)
  refine aa _ k1 (ao k2 rfl ⟨rfl, rfl, trivial⟩ ?_)
  refine vx (EF l[i] l'[i]) (ai (fun hb => af ⟨?_, rfl⟩) (fun hb => ?_))
  ·have hne : l[i] ≠ l'[i] := by simpa using hb
   rw [decide_eq_false]; rintro rfl; exact hne rfl
  ·have he : l[i] = l'[i] := by simpa using hb
   refine aa _ (av (by omega)) (aw (by simp [Eqs, E]) hlt ⟨rfl, l4, ?_⟩)
   rw [List.take_add_one, List.take_add_one, hor, List.getElem?_eq_getElem hlt, List.getElem?_eq_getElem hlt', he]
 ·have hge : l.length ≤ i := by simpa using hb
  rw [List.take_of_length_le hge, List.take_of_length_le (by omega)] at hor
  exact af ⟨by rw [decide_eq_true hor], rfl⟩
theorem Dt {H : Heap} {v v' : Value} {zs : List Int} {l : List Cp} (hs : Sl H 1 v (bN zs)) (h' : oo H v' l) (e : Int) : RetO PP dN [v, v', iV e] H [] (.bool (decide ((ofV zs).1 = l) && (ofV zs).2 == e)) := by
 refine j7 (vs := [v, v', iV e]) (by kernel_rfl) ⟨hs.one, h'.one, rfl, trivial⟩ ?_
 simp only [gA]
 refine bh (Fv hs) ?_
 rintro _ H1 _ ⟨⟨sl, rfl, h1⟩, rfl⟩ l1
 refine ⟨[sl, iV (ofV zs).2], rfl, ⟨h1.one, rfl, trivial⟩, ?_⟩
 refine ak (xR _ h1 (h'.le l1)) rfl ⟨rfl, trivial⟩ fun H2 l2 => ?_
 refine ab (ab (aa _ (ap _ _) (ab (aa _ (ar _ _) ?_))))
 exact af ⟨rfl, rfl⟩
theorem wb {H : Heap} {p v : Value} {cs : List CdF} (hp : PoolF H p cs) (hG : GlobOk H) {s : List UInt8} (hs : s.length ≤ 1000) {l : List Cp} (h' : oo H v l) (m e : Int) : RetO PP de [p, Str s, v, iV m, iV e] H [] (.bool ((decide ((bJ cs s).1 = l) && (bJ cs s).2.1 == m) && (bJ cs s).2.2 == e)) := by
 refine iW (vs := [p, Str s, v, iV m, iV e]) (by kernel_rfl) ⟨hp.one, rfl, h'.one, rfl, rfl, trivial⟩ ?_
 simp only [eS]
 refine bh (BP hp hG s hs) ?_
 rintro _ H1 _ ⟨⟨sl, rfl, h1⟩, rfl⟩ l1
 refine ⟨[sl, iV (bJ cs s).2.1, iV (bJ cs s).2.2], rfl, ⟨h1.one, rfl, rfl, trivial⟩, ?_⟩
 refine ak (xR _ h1 (h'.le l1)) rfl ⟨rfl, trivial⟩ fun H2 l2 => ?_
 refine ab (ab (aa _ (ap _ _) (ab (aa _ (ar _ _) (ab (ab (aa _ (ap _ _) (ab (aa _ (ar _ _) ?_)))))))))
 exact af ⟨rfl, rfl⟩
theorem Ew (n : Nat) (h : n < 1000) : ah (.bin .quo .int) [iV n, iV 10] = some (iV ((n / 10 : Nat) : Int)) := by
 have e : Int.tdiv (n : Int) 10 = ((n / 10 : Nat) : Int) := by rw [Int.tdiv_eq_ediv_of_nonneg (by omega)]; omega
 have w : IntKind.i64.wrap ((n / 10 : Nat) : Int) = ((n / 10 : Nat) : Int) := jT (by omega) (by omega)
 simp [ah, bD, bC, e]
 simpa using w
theorem Eu (n : Nat) (h : n < 1000) : ah (.bin .rem .int) [iV n, iV 10] = some (iV ((n % 10 : Nat) : Int)) := by
 have e : Int.tmod (n : Int) 10 = ((n % 10 : Nat) : Int) := by rw [Int.tmod_eq_emod_of_nonneg (by omega)]; omega
 simp [ah, bD, bC, e]
 try omega
theorem ky {n : Nat} (h : n < 10) : Go.Lib.decDigits n = [UInt8.ofNat (48 + n)] := by rw [Go.Lib.decDigits, dif_pos h]
theorem uM {n : Nat} (h : ¬ n < 10) : Go.Lib.decDigits n = Go.Lib.decDigits (n / 10) ++ [UInt8.ofNat (48 + n % 10)] := by rw [Go.Lib.decDigits, dif_neg h]
theorem uN {n : Nat} (h : n < 100) : (Go.Lib.decDigits n).length ≤ 2 := by
 by_cases h1 : n < 10
 ·rw [ky h1]; simp
 ·rw [uM h1, ky (by omega)]; simp
theorem AO (n : Nat) (h : n < 10) : ah (.sslc true true) [.string ⟨#[48, 49, 50, 51, 52, 53, 54, 55, 56, 57]⟩, iV n, iV ((n + 1 : Nat) : Int)] = some (Str [UInt8.ofNat (48 + n)]) := by
 match n, h with
 | 0, _ => rfl
 | 1, _ => rfl
 | 2, _ => rfl
 | 3, _ => rfl
 | 4, _ => rfl
 | 5, _ => rfl
 | 6, _ => rfl
 | 7, _ => rfl
 | 8, _ => rfl
 | 9, _ => rfl
theorem uw (n : Nat) (h : n < 10) (H : Heap) (O : Go.Sx.Own) : RetO PP dc [iV n] H O (Str (Go.Lib.decDigits n)) := by
 refine dU (vs := [iV n]) (by kernel_rfl) ⟨rfl, trivial⟩ ?_
 simp only [cY]
 refine aa _ (aA _ _) (ai (fun _ => ?_) (fun hd => ?_))
 ·refine aa _ (av (by omega)) (aa _ (AO n h) (af ⟨by rw [ky h], rfl⟩))
 ·exfalso; have := of_decide_eq_false hd; omega
theorem zo (n : Nat) (h : n < 100) (H : Heap) (O : Go.Sx.Own) : RetO PP dc [iV n] H O (Str (Go.Lib.decDigits n)) := by
 by_cases h1 : n < 10
 ·exact uw n h1 H O
 refine dU (vs := [iV n]) (by kernel_rfl) ⟨rfl, trivial⟩ ?_
 simp only [cY]
 refine aa _ (aA _ _) (ai (fun hd => ?_) (fun _ => ?_))
 ·exfalso; have := of_decide_eq_true hd; omega
 refine aa _ (Ew n (by omega)) ?_
 refine ak (uw (n / 10) (by omega) _ _) rfl ⟨rfl, trivial⟩ fun H1 l1 => ?_
 refine aa _ (Eu n (by omega)) ?_
 refine ak (uw (n % 10) (by omega) _ _) rfl ⟨rfl, trivial⟩ fun H2 l2 => ?_
 refine aa _ (oI (by rw [ky (by omega), ky (by omega)]; simp)) (af ⟨?_, rfl⟩)
 rw [uM h1, ky (n := n % 10) (by omega)]
theorem BR (n : Nat) (h : n < 100) (H : Heap) (O : Go.Sx.Own) : RetO PP 40 [iV n] H O (Str (Go.Lib.decDigits n)) := by
 refine eO fun w F hm => ?_
 refine (Tryz.strconv_Itoa_small n h w).mono ?_
 rintro e w' ⟨rfl, rfl⟩
 exact ⟨rfl, fun _ _ => rfl, rfl⟩
def rQ (cs : List CdF) (x : Cp) : List UInt8 := Go.Lib.decDigits x.n.toNat ++ [32] ++ (ip cs x.card).nm ++ [10]
def oD (cs : List CdF) (l : List Cp) : List UInt8 := l.flatMap (rQ cs)
theorem An {c : CdF} (h : okN c) : 1 ≤ c.nm.length ∧ c.nm.length ≤ 32 := by
 have h := h.1
 simp only [ke, wi, Bool.and_eq_true, decide_eq_true_eq] at h
 omega
theorem vZ {cs : List CdF} {i : Int} (h : inP cs i) : ip cs i ∈ cs := by
 have hlt : i.toNat < cs.length := by have := h.1; have := h.2; omega
 rw [ip, if_pos h, List.getD_eq_getElem?_getD, List.getElem?_eq_getElem hlt]
 exact List.getElem_mem hlt
theorem zB {cs : List CdF} (hk : ∀ c ∈ cs, okN c) {x : Cp} (hx : nt cs x) : (rQ cs x).length ≤ 36 ∧ 4 ≤ (rQ cs x).length ∨ (rQ cs x).length ≤ 36 := by
 right
 have h1 := (An (hk _ (vZ hx.1))).2
 have h2 := uN (n := x.n.toNat) (by have := hx.2.1; have := hx.2.2.1; omega)
 simp only [rQ, List.length_append, List.length_singleton]
 omega
theorem xr {cs : List CdF} {l : List Cp} {i : Nat} (hi : i < l.length) : oD cs (l.take (i + 1)) = oD cs (l.take i) ++ rQ cs l[i] := by
 rw [List.take_add_one, List.getElem?_eq_getElem hi, Option.toList_some, oD, List.flatMap_append, List.flatMap_singleton]
 rfl
def qJ (n : Nat) : List UInt8 := Go.Lib.decDigits n ++ [32]
def xX (s : List UInt8) (n : Nat) : Bool := decide ((s.length : Int) > ((qJ n).length : Int)) && s.take (qJ n).length == qJ n
def wM (cs : List CdF) (s : List UInt8) (n : Nat) : (Int × Int) × Int := match eP cs (s.drop (qJ n).length) with
 | some j => (((j : Int), (n : Int)), 0)
 | none => ((0, 0), 9)
def iJ (cs : List CdF) (s : List UInt8) : Nat → Nat → (Int × Int) × Int
 | 0, _ => ((0, 0), 6)
 | f + 1, n => if xX s n = true then wM cs s n else iJ cs s f (n + 1)
def gm (cs : List CdF) (s : List UInt8) : (Int × Int) × Int := iJ cs s 60 1
theorem CZ {H : Heap} {cv : Value} {cs : List CdF} (h : CardsF H cv cs) (s : List UInt8) (hs : s.length < 100000) (O : Go.Sx.Own) : RetO PP gC [cv, Str s] H O (CY (gm cs s)) := by
 refine j0 (vs := [cv, Str s]) (by kernel_rfl) ⟨h.one, rfl, trivial⟩ ?_
 simp only [gw]
 refine aj fun r0 => ?_
 refine fO (fun vs H' O' => ∃ n : Nat, vs = [iV n] ∧ 1 ≤ n ∧ n ≤ 61 ∧ O' = O ∧ Heap.le H H' ∧ gm cs s = iJ cs s (61 - n) n) (fun vs _ _ => match g vs 0 with | .int _ k => 100 - k.toNat | _ => 0) ⟨1, rfl, Nat.le_refl _, by omega, rfl, Heap.le_refl _, rfl⟩ ?_
 rintro _ H1 O1 _ _ _ ⟨n, rfl, hn1, hn2, rfl, l1, hgo⟩
 refine aa _ (gY _ _) (ai (fun hd => ?_) (fun hd => ?_))
 rotate_left
 ·have hn : n = 61 := by have := of_decide_eq_false hd; omega
  subst hn
  refine ae (ae ?_)
  refine af ⟨?_, rfl⟩
  rw [hgo]; rfl
 have hn : n ≤ 60 := by have := of_decide_eq_true hd; omega
 obtain ⟨f, hf⟩ : ∃ f, 61 - n = f + 1 := ⟨60 - n, by omega⟩
 rw [hf, iJ] at hgo
 have hdl := uN (n := n) (by omega)
 have hdl2 : (qJ n).length ≤ 3 := by simp only [qJ, List.length_append, List.length_singleton]; omega
 refine ak (zo n (by omega) _ _) rfl ⟨rfl, trivial⟩ fun H2 l2 => ?_
 refine aa _ (oI (b := [32]) (by simp; omega)) ?_
 rw [show Go.Lib.decDigits n ++ [32] = qJ n from rfl]
 refine aa _ (cK s) ?_
 refine aa _ (cK (qJ n)) ?_
 refine aa _ (bL _ _) ?_
 refine ab ?_
 refine aa _ (cK (qJ n)) ?_
 refine ab (ab ?_)
 refine ⟨Str (s.take (qJ n).length), fun hg => vk s _ (by have := hg.1; simp at this; omega), .inr rfl, ?_⟩
 refine ab (ab ?_)
 refine aa _ (rn _ _) ?_
 refine ab ?_
 refine aa _ (ar _ _) (ai (fun hp => ?_) (fun hp => ?_))
 ·have hp : xX s n = true := hp
  rw [if_pos hp, wM] at hgo
  have hlt : (qJ n).length < s.length := by
   have := (Bool.and_eq_true_iff.1 hp).1
   have := of_decide_eq_true this
   omega
  refine aa _ (cK (qJ n)) ?_
  refine aa _ (vm s _ (by omega)) ?_
  have hf := Aj (h.le (Heap.le_trans l1 l2)) (s.drop (qJ n).length) O1
  cases hfg : eP cs (s.drop (qJ n).length) with
  | none =>
   rw [uL, hfg] at hf
   rw [hfg] at hgo
   refine ak hf rfl (vs := [iV 0, .bool false]) ⟨rfl, rfl, trivial⟩ fun H3 l3 => ?_
   refine aa _ (az _) (ai (fun _ => ?_) (fun hd => by cases hd))
   refine ae (ae ?_)
   refine af ⟨?_, rfl⟩
   rw [hgo]; rfl
  | some j =>
   rw [uL, hfg] at hf
   rw [hfg] at hgo
   refine ak hf rfl (vs := [iV j, .bool true]) ⟨rfl, rfl, trivial⟩ fun H3 l3 => ?_
   refine aa _ (az _) (ai (fun hd => by cases hd) (fun _ => ?_))
   refine ae (ae ?_)
   refine af ⟨?_, rfl⟩
   rw [hgo]; rfl
 ·have hp : xX s n = false := hp
  rw [if_neg (by rw [hp]; simp)] at hgo
  refine aa _ (av (by omega)) (ee (by simp [Eqs, E]) ⟨n + 1, rfl, by omega, by omega, rfl, Heap.le_trans l1 l2, by rw [hgo]; congr 1; omega⟩ ?_)
  show 100 - ((n + 1 : Nat) : Int).toNat < 100 - (n : Int).toNat
  omega
def sH (n : Nat) : List UInt8 := if n < 10 then [UInt8.ofNat (48 + n)] else [UInt8.ofNat (48 + n / 10), UInt8.ofNat (48 + n % 10)]
theorem si {n : Nat} (h : n < 100) : Go.Lib.decDigits n = sH n := by
 rw [sH]
 split
 ·rename_i h1; exact ky h1
 ·rename_i h1; rw [uM h1, ky (by omega)]; rfl
theorem zN : ∀ n : Fin 61, Go.Lib.atoiAll (sH n.1) = .ok (n.1 : Int) := by decide
theorem Dl : ∀ n : Fin 61, (32 : UInt8) ∉ sH n.1 := by decide
theorem Aw : ∀ (a b : List UInt8) (c : UInt8), c ∉ a → Go.Lib.indexByte (a ++ c :: b) c = a.length
 | [], b, c, _ => by simp [Go.Lib.indexByte]
 | x :: a, b, c, h => by
  have hx : (x == c) = false := by rw [beq_eq_false_iff_ne]; rintro rfl; exact h List.mem_cons_self
  have ih := Aw a b c fun hm => h (List.mem_cons_of_mem _ hm)
  rw [List.cons_append, Go.Lib.indexByte, hx, if_neg (by simp), ih]
  have : ((a.length : Int) == -1) = false := by rw [beq_eq_false_iff_ne]; omega
  rw [this, if_neg (by simp), List.length_cons]
  omega
theorem yv : ∀ (a : List UInt8) (c : UInt8), c ∉ a → Go.Lib.indexByte a c = -1
 | [], c, _ => rfl
 | x :: a, c, h => by
  have hx : (x == c) = false := by rw [beq_eq_false_iff_ne]; rintro rfl; exact h List.mem_cons_self
  rw [Go.Lib.indexByte, hx, if_neg (by simp), yv a c fun hm => h (List.mem_cons_of_mem _ hm)]
  rfl
theorem sj {a b : List UInt8} (h : (32 : UInt8) ∉ a) : Go.Lib.cut (a ++ 32 :: b) [32] = (a, b, true) := by
 rw [Go.Lib.cut, Go.Lib.index_one, Aw a b 32 h, if_pos (by omega)]
 simp
theorem zP {a : List UInt8} (h : (32 : UInt8) ∉ a) : Go.Lib.cut a [32] = (a, [], false) := by
 rw [Go.Lib.cut, Go.Lib.index_one, yv a 32 h, if_neg (by omega)]
theorem rm (y : List UInt8) : Go.Lib.hasSuffix (y ++ [10]) [10] = true := by
 rw [Go.Lib.hasSuffix, List.isSuffixOf_iff_suffix]; exact List.suffix_append _ _
theorem rk (y : List UInt8) : Go.Lib.trimSuffix (y ++ [10]) [10] = y := by
 rw [Go.Lib.trimSuffix, rm, if_pos rfl]; simp
theorem kS : ∀ {l r : List Int}, l.Pairwise (· < ·) → r.Pairwise (· < ·) → (∀ x, x ∈ l ↔ x ∈ r) → l = r
 | [], [], _, _, _ => rfl
 | [], b :: r, _, _, h => by have := (h b).2 (by simp); cases this
 | a :: l, [], _, _, h => by have := (h a).1 (by simp); cases this
 | a :: l, b :: r, hl, hr, h => by
  rw [List.pairwise_cons] at hl hr
  have e : a = b := by
   have h1 := (h a).1 (by simp)
   have h2 := (h b).2 (by simp)
   rcases List.mem_cons.1 h1 with e | h1
   ·exact e
   rcases List.mem_cons.1 h2 with e | h2
   ·exact e.symm
   have := hl.1 b h2
   have := hr.1 a h1
   omega
  subst e
  congr 1
  refine kS hl.2 hr.2 fun x => ⟨fun hx => ?_, fun hx => ?_⟩
  ·rcases List.mem_cons.1 ((h x).1 (by simp [hx])) with e | h'
   ·have := hl.1 x hx; omega
   ·exact h'
  ·rcases List.mem_cons.1 ((h x).2 (by simp [hx])) with e | h'
   ·have := hr.1 x hx; omega
   ·exact h'
theorem tu : ∀ {l : List Cp} {b : Int}, Av b l → (l.map (·.card)).Pairwise (· < ·) ∧ ∀ x ∈ l, b < x.card
 | [], _, _ => ⟨List.Pairwise.nil, fun x hx => (by cases hx)⟩
 | x :: l, b, h => by
  obtain ⟨h1, h2⟩ := tu h.2
  refine ⟨?_, fun y hy => ?_⟩
  ·rw [List.map_cons, List.pairwise_cons]
   refine ⟨fun c hc => ?_, h1⟩
   obtain ⟨y, hy, rfl⟩ := List.mem_map.1 hc
   exact h2 y hy
  ·rcases List.mem_cons.1 hy with rfl | hy
   ·exact h.1
   ·have := h2 y hy
    have := h.1
    omega
theorem qN {l l' : List Cp} (hp : l'.Perm l) {b : Int} (hi : Av b l) : fJ l' = l := by
 obtain ⟨h1, _⟩ := tu hi
 have hnd : (l.map (·.card)).Nodup := h1.imp fun h e => by omega
 have hnd' : (l'.map (·.card)).Nodup := (hp.map _).nodup_iff.2 hnd
 have hz : cU (l'.map (·.card)) = l.map (·.card) := by
  have hperm : (cU (l'.map (·.card))).Perm (l'.map (·.card)) := List.mergeSort_perm _ _
  have hs : (cU (l'.map (·.card))).Pairwise fun x y => decide (x ≤ y) = true := List.pairwise_mergeSort (fun a b c h1 h2 => by simp at *; omega) (fun a b => by simp; omega) _
  have hn := hperm.nodup_iff.2 hnd'
  refine kS ?_ h1 fun x => ?_
  ·exact List.Pairwise.imp₂ (fun a b h1 h2 => by simp at h1; omega) hs hn
  ·rw [hperm.mem_iff, (hp.map _).mem_iff]
 rw [fJ, hz, List.map_map]
 have : ∀ x ∈ l, ((fun c => (⟨c, uR l' c⟩ : Cp)) ∘ (·.card)) x = x := fun x hx => by
  show (⟨x.card, uR l' x.card⟩ : Cp) = x
  rw [tK hnd' (hp.mem_iff.2 hx)]
 rw [List.map_congr_left this, List.map_id']
theorem jl {cs : List CdF} {s : List UInt8} : ∀ (f n : Nat), (∀ m, n ≤ m → m < n + f → xX s m = false) → iJ cs s f n = ((0, 0), 6)
 | 0, _, _ => rfl
 | f + 1, n, h => by
  rw [iJ, if_neg (by rw [h n (Nat.le_refl _) (by omega)]; simp)]
  exact jl f (n + 1) fun m h1 h2 => h m (by omega) (by omega)
theorem qY {cs : List CdF} {s : List UInt8} {k : Nat} (hk : xX s k = true) : ∀ (f n : Nat), n ≤ k → k < n + f → (∀ m, n ≤ m → m < k → xX s m = false) → iJ cs s f n = wM cs s k
 | 0, n, h1, h2, _ => by omega
 | f + 1, n, h1, h2, h => by
  by_cases e : n = k
  ·subst e
   rw [iJ, if_pos hk]
  ·rw [iJ, if_neg (by rw [h n (Nat.le_refl _) (by omega)]; simp)]
   exact qY hk f (n + 1) (by omega) (by omega) fun m h1 h2 => h m (by omega) h2
theorem xA {a a' b b' : List UInt8} (h : a ++ 32 :: b = a' ++ 32 :: b') (h1 : (32 : UInt8) ∉ a) (h2 : (32 : UInt8) ∉ a') : a = a' ∧ b = b' := by
 have e1 := sj (b := b) h1
 have e2 := sj (b := b') h2
 rw [h, e2] at e1
 injection e1 with e1 e3
 injection e3 with e3 _
 exact ⟨e1.symm, e3.symm⟩
theorem ou {a b : List UInt8} (ha : (32 : UInt8) ∉ a) {n : Nat} (hn : n < 61) : xX (a ++ 32 :: b) n = true ↔ a = sH n ∧ b ≠ [] := by
 have hd : qJ n = sH n ++ [32] := by rw [qJ, si (by omega)]
 have hno := Dl ⟨n, hn⟩
 rw [xX, Bool.and_eq_true, decide_eq_true_eq, beq_iff_eq, hd]
 constructor
 ·rintro ⟨h1, h2⟩
  have e := List.take_append_drop (sH n ++ [32]).length (a ++ 32 :: b)
  rw [h2, List.append_assoc, List.singleton_append] at e
  obtain ⟨e1, e2⟩ := xA e hno ha
  refine ⟨e1.symm, ?_⟩
  rintro rfl
  rw [← e1] at h1
  simp at h1
 ·rintro ⟨rfl, hb⟩
  have hb' : 0 < b.length := List.length_pos_iff.2 hb
  refine ⟨by simp; omega, ?_⟩
  rw [show sH n ++ 32 :: b = (sH n ++ [32]) ++ b by simp, List.take_left]
theorem xW {y : List UInt8} (hy : (32 : UInt8) ∉ y) (n : Nat) : xX y n = false := by
 rw [Bool.eq_false_iff]
 intro h
 rw [xX, Bool.and_eq_true, beq_iff_eq] at h
 apply hy
 have : (32 : UInt8) ∈ y.take (qJ n).length := by rw [h.2, qJ]; simp
 exact List.mem_of_mem_take this
theorem zO : ∀ n m : Fin 61, sH n.1 = sH m.1 → n = m := by decide
theorem yn (cs : List CdF) (y : List UInt8) : (bX cs (y ++ [10])).2 = (gm cs y).2 ∧ ((gm cs y).2 = 0 → (bX cs (y ++ [10])).1 = (gm cs y).1) := by
 by_cases hy : (32 : UInt8) ∈ y
 rotate_left
 ·have h1 : gm cs y = ((0, 0), 6) := jl _ _ fun m _ _ => xW hy m
  have h2 : bX cs (y ++ [10]) = we := by rw [bX, rm, rk, zP hy, if_pos (.inr (.inl rfl))]
  rw [h1, h2]
  exact ⟨rfl, fun h => by cases h⟩
 obtain ⟨a, b, rfl, ha⟩ := List.eq_append_cons_of_mem hy
 by_cases hb : b = []
 ·have h1 : gm cs (a ++ 32 :: b) = ((0, 0), 6) := jl _ _ fun m h1 h2 => by
   rw [Bool.eq_false_iff]
   intro h
   exact ((ou ha (by omega)).1 h).2 hb
  have h2 : bX cs ((a ++ 32 :: b) ++ [10]) = we := by rw [bX, rm, rk, sj ha, if_pos (.inr (.inr hb))]
  rw [h1, h2]
  exact ⟨rfl, fun h => by cases h⟩
 have hr : bX cs ((a ++ 32 :: b) ++ [10]) = match Go.Lib.atoiAll a with
   | .ok n => if Go.Lib.itoa n ≠ a ∨ n < 1 ∨ n > 60 then we else (((lm cs b).1, n), (lm cs b).2)
   | _ => we := by
  rw [bX, rm, rk, sj ha, if_neg (by
   rintro (h | h | h)
   ·cases h
   ·cases h
   ·exact hb h)]
  rfl
 by_cases hn : ∃ n : Nat, 1 ≤ n ∧ n ≤ 60 ∧ a = sH n
 ·obtain ⟨n, n1, n2, rfl⟩ := hn
  have h1 : gm cs (sH n ++ 32 :: b) = wM cs (sH n ++ 32 :: b) n := by
   refine qY ((ou ha (by omega)).2 ⟨rfl, hb⟩) 60 1 n1 (by omega) fun m m1 m2 => ?_
   rw [Bool.eq_false_iff]
   intro h
   have := ((ou ha (by omega)).1 h).1
   have := zO ⟨n, by omega⟩ ⟨m, by omega⟩ this
   injection this with this
   omega
  have h2 : bX cs ((sH n ++ 32 :: b) ++ [10]) = (((lm cs b).1, (n : Int)), (lm cs b).2) := by
   rw [hr, zN ⟨n, by omega⟩]
   simp only []
   rw [if_neg]
   rintro (h | h | h)
   ·exact h (by rw [Go.Lib.itoa, if_neg (by omega), Int.toNat_natCast, si (by omega)])
   ·omega
   ·omega
  have hdrop : (sH n ++ 32 :: b).drop (qJ n).length = b := by
   rw [qJ, si (by omega), show sH n ++ 32 :: b = (sH n ++ [32]) ++ b by simp, List.drop_left]
  rw [h1, h2, wM, hdrop, lm]
  cases eP cs b with
  | none => exact ⟨rfl, fun h => by cases h⟩
  | some j => exact ⟨rfl, fun _ => rfl⟩
 ·have h1 : gm cs (a ++ 32 :: b) = ((0, 0), 6) := jl _ _ fun m h1 h2 => by
   rw [Bool.eq_false_iff]
   intro h
   exact hn ⟨m, h1, by omega, ((ou ha (by omega)).1 h).1⟩
  have h2 : bX cs ((a ++ 32 :: b) ++ [10]) = we := by
   rw [hr]
   rcases hat : Go.Lib.atoiAll a with m | _ | _
   ·simp only []
    by_cases hc : Go.Lib.itoa m ≠ a ∨ m < 1 ∨ m > 60
    ·rw [if_pos hc]
    ·exfalso
     simp only [not_or, Int.not_lt, Int.not_le] at hc
     obtain ⟨c1, c2, c3⟩ := hc
     have c1 : Go.Lib.itoa m = a := by simpa using c1
     refine hn ⟨m.toNat, by omega, by omega, ?_⟩
     rw [← c1, Go.Lib.itoa, if_neg (by omega), si (by omega)]
   ·rfl
   ·rfl
  rw [h1, h2]
  exact ⟨rfl, fun h => by cases h⟩
def oS (cs : List CdF) : Nat → List UInt8 → List Cp → Int → List Cp ⊕ (Int × Int)
 | 0, _, acc, _ => .inl acc
 | f + 1, s, acc, n => if s = [] then .inl acc else if Go.Lib.indexByte s 10 < 0 then .inr (n + 1, 6)
  else if (gm cs (s.take (Go.Lib.indexByte s 10).toNat)).2 ≠ 0 then .inr (n + 1, (gm cs (s.take (Go.Lib.indexByte s 10).toNat)).2)
  else if (acc.any fun y => y.card == (gm cs (s.take (Go.Lib.indexByte s 10).toNat)).1.1) = true then .inr (n + 1, 11)
  else oS cs f (s.drop ((Go.Lib.indexByte s 10).toNat + 1)) (acc ++ [⟨(gm cs (s.take (Go.Lib.indexByte s 10).toNat)).1.1, (gm cs (s.take (Go.Lib.indexByte s 10).toNat)).1.2⟩]) (n + 1)
theorem xQ (cs : List CdF) {s : List UInt8} (h : Go.Lib.indexByte s 10 < 0) : bX cs s = we := by
 have hge := Go.Lib.indexByte_ge s 10
 have hno : ∀ k : Nat, s[k]? ≠ some 10 := Go.Lib.indexByte_none (by omega)
 have hs : Go.Lib.hasSuffix s [10] = false := by
  rw [Bool.eq_false_iff, Go.Lib.hasSuffix]
  intro hx
  rw [List.isSuffixOf_iff_suffix] at hx
  obtain ⟨t, ht⟩ := hx
  apply hno t.length
  rw [← ht]; simp
 rw [bX, if_pos (.inl hs)]
theorem AM {s : List UInt8} (h : ¬ Go.Lib.indexByte s 10 < 0) : s.take ((Go.Lib.indexByte s 10).toNat + 1) = s.take (Go.Lib.indexByte s 10).toNat ++ [10] := by
 have h1 := (Go.Lib.indexByte_some (l := s) (c := 10) (o := (Go.Lib.indexByte s 10).toNat) (by omega)).1
 rw [List.take_add_one, h1]; rfl
theorem Ah (cs : List CdF) : ∀ (f : Nat) (s : List UInt8) (acc : List Cp) (n : Int), s.length ≤ f → oS cs f s acc n = bP cs (b7 f s) acc n
 | 0, s, acc, n, h => by
  rw [List.eq_nil_of_length_eq_zero (Nat.le_zero.1 h)]; rfl
 | f + 1, s, acc, n, h => by
  by_cases hs : s = []
  ·subst hs; rfl
  ·obtain ⟨h1, h2⟩ := iK hs
   rw [oS, if_neg hs, b7, if_neg hs]
   by_cases hi : Go.Lib.indexByte s 10 < 0
   ·have he : cV s = s.length := by rw [cV, if_neg (by omega)]
    rw [if_pos hi, he, List.take_length, bP, xQ cs hi, if_pos (by decide)]
    rfl
   ·have he : cV s = (Go.Lib.indexByte s 10).toNat + 1 := by rw [cV, if_pos (by omega)]
    rw [if_neg hi, he, AM hi]
    obtain ⟨r1, r2⟩ := yn cs (s.take (Go.Lib.indexByte s 10).toNat)
    rw [bP, r1]
    by_cases hz : (gm cs (s.take (Go.Lib.indexByte s 10).toNat)).2 ≠ 0
    ·rw [if_pos hz, if_pos hz]
    ·rw [if_neg hz, if_neg hz, r2 (by simpa using hz)]
     by_cases ha : (acc.any fun y => y.card == (gm cs (s.take (Go.Lib.indexByte s 10).toNat)).1.1) = true
     ·rw [if_pos ha, if_pos ha]
     ·rw [if_neg ha, if_neg ha]
      exact Ah cs f _ _ _ (by rw [List.length_drop]; omega)
theorem sU (cs : List CdF) (s : List UInt8) : oS cs s.length s [] 0 = bP cs (b7 s.length s) [] 0 := Ah cs s.length s [] 0 (Nat.le_refl _)
def vR (acc : List Cp) : Nat → List Cp
 | 0 => []
 | n + 1 => vR acc n ++ acc.filter fun x => x.card == (n : Int)
theorem sa {acc : List Cp} (h : ∀ x ∈ acc, 0 ≤ x.card) : ∀ n, (vR acc n).Perm (acc.filter fun x => decide (x.card < (n : Int)))
 | 0 => by
  rw [vR, List.filter_eq_nil_iff.2]
  intro x hx
  have := h x hx
  simp; omega
 | n + 1 => by
  rw [vR]
  have h1 := (List.filter_append_perm (fun x : Cp => decide (x.card < (n : Int))) (acc.filter fun x => decide (x.card < ((n + 1 : Nat) : Int))))
  rw [List.filter_filter, List.filter_filter] at h1
  refine List.Perm.trans ?_ h1
  have e1 : (acc.filter fun x => decide (x.card < (n : Int)) && decide (x.card < ((n + 1 : Nat) : Int))) = acc.filter fun x => decide (x.card < (n : Int)) := by
   refine List.filter_congr fun x _ => ?_
   by_cases e : x.card < (n : Int)
   ·have : x.card < ((n + 1 : Nat) : Int) := by omega
    simp [e]; omega
   ·simp [e]
  have e2 : (acc.filter fun x => !decide (x.card < (n : Int)) && decide (x.card < ((n + 1 : Nat) : Int))) = acc.filter fun x => x.card == (n : Int) := by
   refine List.filter_congr fun x _ => ?_
   by_cases e : x.card = (n : Int)
   ·simp [e]; omega
   ·have : ¬ (¬ x.card < (n : Int) ∧ x.card < ((n + 1 : Nat) : Int)) := by omega
    rw [beq_eq_false_iff_ne.2 e]
    simp; omega
  rw [e1, e2]
  exact (sa h n).append_right _
theorem Br {acc : List Cp} {n : Nat} (h : ∀ x ∈ acc, 0 ≤ x.card ∧ x.card < (n : Int)) : (vR acc n).Perm acc := by
 have := sa (fun x hx => (h x hx).1) n
 rwa [List.filter_eq_self.2 fun x hx => by simpa using (h x hx).2] at this
theorem tt : ∀ {l : List Cp} {b : Int} {x : Cp}, Av b l → b < x.card → (∀ y ∈ l, y.card < x.card) → Av b (l ++ [x])
 | [], _, _, _, h, _ => ⟨h, trivial⟩
 | y :: l, _, x, hi, _, h => ⟨hi.1, tt hi.2 (h y (by simp)) fun z hz => h z (by simp [hz])⟩
theorem yE {c : Int} : ∀ {acc : List Cp}, (acc.map (·.card)).Nodup → (acc.filter fun x => x.card == c) = [] ∨ ∃ x, x ∈ acc ∧ x.card = c ∧ (acc.filter fun x => x.card == c) = [x]
 | [], _ => .inl rfl
 | a :: l, h => by
  rw [List.map_cons, List.nodup_cons] at h
  by_cases e : a.card = c
  ·refine .inr ⟨a, by simp, e, ?_⟩
   rw [List.filter_cons_of_pos (by simpa using e), List.filter_eq_nil_iff.2]
   intro x hx hc
   refine h.1 (List.mem_map.2 ⟨x, hx, ?_⟩)
   rw [e]; simpa using hc
  ·rw [List.filter_cons_of_neg (by simpa using e)]
   rcases yE (c := c) h.2 with h1 | ⟨x, h1, h2, h3⟩
   ·exact .inl h1
   ·exact .inr ⟨x, by simp [h1], h2, h3⟩
theorem vQ {acc : List Cp} (hn : (acc.map (·.card)).Nodup) : ∀ n : Nat, Av (-1) (vR acc n) ∧ ∀ x ∈ vR acc n, x.card < (n : Int)
 | 0 => ⟨trivial, fun x hx => by cases hx⟩
 | n + 1 => by
  obtain ⟨h1, h2⟩ := vQ hn n
  rw [vR]
  rcases yE (c := (n : Int)) hn with h | ⟨x, _, hc, h⟩
  ·rw [h, List.append_nil]
   exact ⟨h1, fun x hx => by have := h2 x hx; omega⟩
  ·rw [h]
   refine ⟨tt h1 (by omega) fun y hy => by rw [hc]; exact h2 y hy, fun y hy => ?_⟩
   rcases List.mem_append.1 hy with hy | hy
   ·have := h2 y hy; omega
   ·obtain rfl : y = x := by simpa using hy
    omega
theorem vP {acc : List Cp} {n : Nat} (hn : (acc.map (·.card)).Nodup) (h : ∀ x ∈ acc, 0 ≤ x.card ∧ x.card < (n : Int)) : vR acc n = fJ acc := (qN (Br h).symm (vQ hn n).1).symm
theorem yC {acc : List Cp} (h : ∀ x ∈ acc, 0 ≤ x.card) (n : Nat) : (vR acc n).length ≤ acc.length := by
 rw [(sa h n).length_eq]; exact List.length_filter_le _ _
theorem tl {cs : List CdF} {s : List UInt8} : ∀ (f n : Nat), (iJ cs s f n).2 = 0 → 0 ≤ (iJ cs s f n).1.1 ∧ (iJ cs s f n).1.1 < cs.length
 | 0, n => fun h => by cases h
 | f + 1, n => by
  rw [iJ]
  by_cases hp : xX s n = true
  ·rw [if_pos hp, wM]
   cases hf : eP cs (s.drop (qJ n).length) with
   | none => intro h; cases h
   | some j => intro _; exact ⟨Int.natCast_nonneg j, by obtain ⟨hj, _⟩ := q6 hf; show (j : Int) < _; omega⟩
  ·rw [if_neg hp]; exact tl f (n + 1)
theorem zC {cs : List CdF} {s : List UInt8} (h : (gm cs s).2 = 0) : 0 ≤ (gm cs s).1.1 ∧ (gm cs s).1.1 < cs.length := tl 60 1 h
theorem mS {cs : List CdF} {s : List UInt8} {m e : Int} (h : oS cs s.length s [] 0 = .inr (m, e)) : bJ cs s = ([], m, e) := by rw [bJ, ← sU, h]
theorem yb {cs : List CdF} {s : List UInt8} {acc : List Cp} (h : oS cs s.length s [] 0 = .inl acc) : bJ cs s = if (aE cs (fJ acc)).2 ≠ 0 then ([], 0, (aE cs (fJ acc)).2) else (fJ acc, 0, 0) := by rw [bJ, ← sU, h]
theorem zn {cs : List CdF} {H0 : Heap} {cv : Value} (hc : CardsF H0 cv cs) (hcs : cs.length < 2 ^ 63) {s : List UInt8} {acc : List Cp} (hgo : oS cs s.length s [] 0 = .inl acc) (hn : (acc.map (·.card)).Nodup) (hin : ∀ x ∈ acc, 0 ≤ x.card ∧ x.card < (cs.length : Int)) (hal : acc.length ≤ 1000)
  {H : Heap} {sl : Value} (hle : Heap.le H0 H) (hA : oo H sl acc) (i : Nat) (hi : i ≤ cs.length) {gl : Value} {O : Go.Sx.Own} (hO : OSl an 2 gl ((vR acc i).map Cp.row) O) (hge : cs.length ≤ i) :
  cR (fun H1 O1 R => Triple PP du [cv, gl] H1 O1 R) false [] [] (.tup [none, none]) (fun l41 _ H' O' => (Tree.pure [] (.bin .neq .int) [g l41 1, iV 0] fun v42 => Tree.br v42 (.ret (.tuple #[.slice none 0 0, iV 0, g l41 1]) []) (.ret (.tuple #[gl, iV 0, iV 0]) [])).den PP (mH cs s) H' O') H O := by
 obtain rfl : i = cs.length := by omega
 rw [vP hn hin] at hO
 refine pY hO fun H1 l1 hs => ?_
 have hsl : (fJ acc).length ≤ 1000 := by rw [← vP hn hin]; exact Nat.le_trans (yC (fun x hx => (hin x hx).1) _) hal
 refine ak (AY (hc.le (Heap.le_trans hle l1)) hs (by omega) _) rfl (vs := [iV (aE cs (fJ acc)).1, iV (aE cs (fJ acc)).2]) ⟨rfl, rfl, trivial⟩ fun H2 l2 => ?_
 have hV := yb hgo
 refine aa _ (dY _ _) (ai (fun hd => ?_) (fun hd => ?_))
 ·have he : (aE cs (fJ acc)).2 ≠ 0 := by simpa using hd
  rw [if_pos he] at hV
  refine af ⟨.slice none 0 0, ?_, ?_⟩
  ·rw [hV]; rfl
  ·rw [hV]; exact Sl.nil _ _
 ·have he : ¬ (aE cs (fJ acc)).2 ≠ 0 := by simpa using hd
  rw [if_neg he] at hV
  refine af ⟨gl, ?_, ?_⟩
  ·rw [hV]
  ·rw [hV]; exact hs.le l2
def atU (s : List UInt8) (i : Nat) : Int := ((s[i]?).map fun b => (b.toNat : Int)).getD 0
theorem Cf {s : List UInt8} {i : Nat} (h : i < s.length) : ah .sidx [Str s, iV i] = some (.int .u8 (atU s i)) := by
 rw [lE s i h, atU, List.getElem?_eq_getElem h]; rfl
theorem Df (a b : Int) : ah (.bin .neq .int) [.int .u8 a, .int .u8 b] = some (.bool (a != b)) := by simp [ah, bD, bC]
theorem DO {s : List UInt8} {i : Nat} (h : i < s.length) (hb : atU s i ≠ 10) : s[i]? ≠ some 10 := by
 rw [atU] at hb
 intro e
 rw [e] at hb
 exact hb rfl
theorem DR {s : List UInt8} {i : Nat} (h : i < s.length) (hb : atU s i = 10) : s[i]? = some 10 := by
 rw [atU, List.getElem?_eq_getElem h] at hb
 have : (s[i].toNat : Int) = 10 := hb
 rw [List.getElem?_eq_getElem h]
 have h2 : s[i].toNat = (10 : UInt8).toNat := by show s[i].toNat = 10; omega
 rw [UInt8.toNat_inj.1 h2]
theorem EQ {s : List UInt8} (h : ∀ k, k < s.length → s[k]? ≠ some 10) : Go.Lib.indexByte s 10 < 0 := by
 by_cases hi : 0 ≤ Go.Lib.indexByte s 10
 ·have h1 := (Go.Lib.indexByte_some (l := s) (c := 10) (o := (Go.Lib.indexByte s 10).toNat) (by omega)).1
  exact absurd h1 (h _ (List.getElem?_eq_some_iff.1 h1).1)
 ·omega
theorem ER {s : List UInt8} {i : Nat} (h : ∀ k, k < i → s[k]? ≠ some 10) (hi : s[i]? = some 10) : Go.Lib.indexByte s 10 = (i : Int) := by
 by_cases h0 : 0 ≤ Go.Lib.indexByte s 10
 ·obtain ⟨h1, h2⟩ := Go.Lib.indexByte_some (l := s) (c := 10) (o := (Go.Lib.indexByte s 10).toNat) (by omega)
  rcases Nat.lt_trichotomy (Go.Lib.indexByte s 10).toNat i with h3 | h3 | h3
  ·exact absurd h1 (h _ h3)
  ·omega
  ·exact absurd hi (h2 _ h3)
 ·have hge := Go.Lib.indexByte_ge s 10
  exact absurd hi (Go.Lib.indexByte_none (by omega) i)
def ES (cs : List CdF) (s : List UInt8) (H0 : Heap) (vs : List Value) (H' : Heap) (O' : Go.Sx.Own) : Prop := ∃ (s' : List UInt8) (acc : List Cp) (n f : Nat) (sl : Value), vs = [Str s', sl, iV n] ∧ s'.length + n ≤ s.length ∧ s'.length ≤ f ∧ acc.length = n ∧ (acc.map (·.card)).Nodup ∧ (∀ x ∈ acc, 0 ≤ x.card ∧ x.card < (cs.length : Int)) ∧
 oS cs s.length s [] 0 = oS cs f s' acc n ∧ OSl an 2 sl (acc.map Cp.row) O' ∧ Heap.le H0 H'
theorem AX {H0 : Heap} {cv : Value} {cs : List CdF} (hc : CardsF H0 cv cs) (s : List UInt8) (hs : s.length ≤ 1000) : Triple PP dt [cv, Str s] H0 [] fun r H' O' => mH cs s r H' O' := by
 refine jH (vs := [cv, Str s]) (by kernel_rfl) ⟨hc.one, rfl, trivial⟩ ?_
 simp only [fi]
 have clen := hc.len
 have clB := hc.lenB
 refine fO (ES cs s H0) (fun vs _ _ => match g vs 2 with | .int _ k => s.length + 1 - k.toNat | _ => 0) ⟨s, [], 0, s.length, .slice none 0 0, rfl, by omega, Nat.le_refl _, rfl, List.nodup_nil, fun x hx => (by cases hx), rfl, OSl.nil _ _, Heap.le_refl _⟩ ?_
 rintro _ H1 O1 _ _ _ ⟨s', acc, n, f, sl, rfl, hb1, hb2, hal, hn, hin, hgo, hO, l1⟩
 refine aa _ (cK s') (aa _ (bL _ _) (ai (fun hd => ?_) (fun hd => ?_)))
 ·have hpos : 0 < s'.length := by have := of_decide_eq_true hd; omega
  have hne : s' ≠ [] := by intro e; rw [e] at hpos; exact Nat.lt_irrefl 0 hpos
  obtain ⟨f', rfl⟩ : ∃ f', f = f' + 1 := ⟨f - 1, by omega⟩
  rw [oS, if_neg hne] at hgo
  have hcast : ((n : Int) + 1) = ((n + 1 : Nat) : Int) := by omega
  refine aa _ (av (by omega)) ?_
  refine aI s'.length (fun i H' O' => O' = O1 ∧ Heap.le H1 H' ∧ ∀ k, k < i → s'[k]? ≠ some 10) ⟨rfl, Heap.le_refl _, fun k hk => by omega⟩ ?_
  rintro i H2 O2 hi - ⟨rfl, l2, hno⟩
  refine aa _ (cK s') (aa _ (aA _ _) ?_)
  refine ab (ab ?_)
  refine ⟨.int .u8 (atU s' i), fun hg => Cf (by have := hg.1; simp at this; omega), .inr rfl, ?_⟩
  refine ab ?_
  refine aa _ (Df _ _) ?_
  refine ab ?_
  refine aa _ (ar _ _) (ai (fun hb => ?_) (fun hb => ?_))
  ·obtain ⟨h1, h2⟩ := Bool.and_eq_true_iff.1 hb
   have hlt : i < s'.length := by have := of_decide_eq_true h1; omega
   refine aa _ (av (by omega)) (aw (by simp [Eqs, E]) hlt ⟨rfl, l2, fun k hk => ?_⟩)
   by_cases e : k = i
   ·subst e; exact DO hlt (by simpa using h2)
   ·exact hno k (by omega)
  refine aa _ (cK s') (aa _ (ap _ _) (ai (fun hd => ?_) (fun hd => ?_)))
  ·have hie : (i : Int) = (s'.length : Int) := by simpa using hd
   have hie : i = s'.length := by omega
   subst hie
   rw [if_pos (EQ hno), hcast] at hgo
   have hV := mS hgo
   exact af ⟨.slice none 0 0, by rw [hV] <;> rfl, by rw [hV]; exact Sl.nil _ _⟩
  have hie : ¬ (i : Int) = (s'.length : Int) := by simpa using hd
  have hlt : i < s'.length := by omega
  have hten : atU s' i = 10 := by
   have h2 : (decide ((i : Int) < (s'.length : Int)) && (atU s' i != 10)) = false := hb
   rw [decide_eq_true (by omega), Bool.true_and] at h2
   simpa using h2
  have hLF := ER hno (DR hlt hten)
  rw [hLF, if_neg (by omega), Int.toNat_natCast] at hgo
  refine aa _ (vk s' i (by omega)) ?_
  refine ak (CZ (hc.le (Heap.le_trans l1 l2)) (s'.take i) (by rw [List.length_take]; omega) _) rfl (vs := [iV (gm cs (s'.take i)).1.1, iV (gm cs (s'.take i)).1.2, iV (gm cs (s'.take i)).2]) ⟨rfl, rfl, rfl, trivial⟩ fun H3 l3 => ?_
  refine aj fun r0 => ?_
  refine ae ?_
  have hli := zC (cs := cs) (s := s'.take i)
  generalize gm cs (s'.take i) = q at *
  obtain ⟨⟨c, m⟩, e⟩ := q
  refine aa _ (dY _ _) (ai (fun hd => ?_) (fun hd => ?_))
  ·have he : e ≠ 0 := by simpa using hd
   rw [if_pos he, hcast] at hgo
   have hV := mS hgo
   exact af ⟨.slice none 0 0, by rw [hV] <;> rfl, by rw [hV]; exact Sl.nil _ _⟩
  have he : e = 0 := by
   have hd : (e != 0) = false := hd
   simpa using hd
  subst he
  have hli := hli rfl
  rw [if_neg (by simp)] at hgo
  refine aI acc.length (fun j H' O' => O' = O2 ∧ Heap.le H3 H' ∧ ∀ y ∈ acc.take j, y.card ≠ c) ⟨rfl, Heap.le_refl _, by simp⟩ ?_
  rintro j H4 O4 hj - ⟨rfl, l4, hbusy⟩
  have hol := hO.len
  rw [List.length_map] at hol
  refine aa _ hol (aa _ (aA _ _) (ai (fun hlt2 => ?_) (fun hge2 => ?_)))
  ·have hlt2 : j < acc.length := by have := of_decide_eq_true hlt2; omega
   have hget : (acc.map Cp.row)[j]? = some [iV acc[j].card, iV acc[j].n] := by rw [List.getElem?_map, List.getElem?_eq_getElem hlt2]; rfl
   obtain ⟨b, q1, _, _, q3⟩ := hO.idx (O := O4) (fun p hp => hp) H4 (k := .i64) hget
   have q3' := q3 0 1 (by omega)
   rw [CL] at q3'
   refine aa _ q1 (au rfl (ao (vs := [iV acc[j].card]) q3' rfl ⟨rfl, trivial⟩ ?_))
   refine ae ?_
   refine aa _ (ap _ _) (ai (fun hb => ?_) (fun hb => ?_))
   ·have hb : acc[j].card = c := by simpa using hb
    have ha : (acc.any fun y => y.card == c) = true := List.any_eq_true.2 ⟨acc[j], List.getElem_mem hlt2, by simpa using hb⟩
    rw [if_pos ha, hcast] at hgo
    have hV := mS hgo
    exact af ⟨.slice none 0 0, by rw [hV] <;> rfl, by rw [hV]; exact Sl.nil _ _⟩
   ·have hb : acc[j].card ≠ c := by simpa using hb
    refine aa _ (av (by omega)) (aw (by simp [Eqs, E]) hlt2 ⟨rfl, l4, fun y hy => ?_⟩)
    rw [List.take_add_one, List.getElem?_eq_getElem hlt2, Option.toList_some] at hy
    rcases List.mem_append.1 hy with hy | hy
    ·exact hbusy y hy
    ·obtain rfl : y = acc[j] := by simpa using hy
     exact hb
  have hge2 : acc.length ≤ j := by have := of_decide_eq_false hge2; omega
  rw [List.take_of_length_le hge2] at hbusy
  have ha : ¬ (acc.any fun y => y.card == c) = true := by
   intro h
   obtain ⟨y, hy, h⟩ := List.any_eq_true.1 h
   exact hbusy y hy (by simpa using h)
  rw [if_neg ha] at hgo
  refine ae ?_
  refine aj fun r1 => ?_
  refine cz (rows := acc.map Cp.row) (news := [[iV c, iV m]]) (O1 := O4) (O2 := []) (e := an) (size := 2) (bytes := 16) (by kernel_rfl) (by simp) hO (fun Hf _ hf => Sl.block1 (hf _ List.mem_cons_self) rfl ⟨rfl, rfl, trivial⟩) (by simp; omega) (by simp; omega) ?_
  intro v' O1' H5 l5 hO'
  rw [List.append_nil]
  refine aa _ (av (by omega)) (aa _ (vm s' (i + 1) (by omega)) ?_)
  refine ee (by simp [Eqs, E, Es]) ⟨s'.drop (i + 1), acc ++ [⟨c, m⟩], n + 1, f', v', rfl, by rw [List.length_drop]; omega, by rw [List.length_drop]; omega, by simp [hal], ?_, ?_, by rw [hgo, hcast], by rw [List.map_append]; exact hO', Heap.le_trans l1 (Heap.le_trans l2 (Heap.le_trans l3 (Heap.le_trans l4 l5)))⟩ ?_
  ·rw [List.map_append, List.nodup_append]
   refine ⟨hn, by simp, fun a ha b hb => ?_⟩
   obtain ⟨y, hy, rfl⟩ := List.mem_map.1 ha
   obtain rfl : b = c := by simpa using hb
   exact hbusy y hy
  ·intro x hx
   rcases List.mem_append.1 hx with hx | hx
   ·exact hin x hx
   ·obtain rfl : x = ⟨c, m⟩ := by simpa using hx
    exact hli
  ·show s.length + 1 - ((n + 1 : Nat) : Int).toNat < s.length + 1 - (n : Int).toNat
   omega
 have hz : s' = [] := by
  have := of_decide_eq_false hd
  exact List.eq_nil_of_length_eq_zero (by omega)
 subst hz
 have hgo : oS cs s.length s [] 0 = .inl acc := by rw [hgo]; cases f <;> rfl
 refine uO cs.length (fun i x H' O' => oo H' sl acc ∧ Heap.le H1 H' ∧ OSl an 2 x ((vR acc i).map Cp.row) O') (fun hcc => ?_) ?_
 ·obtain ⟨H', g, k, l⟩ := hO.freeze (X := []) (by simpa using hcc)
  exact ⟨H', [], by simpa using g, k, l, OSl.nil _ _⟩
 rintro i gl H2 O2 hi - ⟨hA, l2, hO2⟩
 refine aa _ clen (aa _ (aA _ _) (ai (fun hlt => ?_) (fun hge => ?_)))
 rotate_left
 ·have hge : cs.length ≤ i := by have := of_decide_eq_false hge; omega
  exact zn hc clB hgo hn hin (by omega) (Heap.le_trans l1 l2) hA i hi hO2 hge
 have hlt : i < cs.length := by have := of_decide_eq_true hlt; omega
 refine iN acc.length (fun j x H' O' => Heap.le H2 H' ∧ OSl an 2 x ((vR acc i ++ (acc.take j).filter fun y => y.card == (i : Int)).map Cp.row) O') ⟨Heap.le_refl _, by rw [List.take_zero, List.filter_nil, List.append_nil]; exact hO2⟩ ?_
 rintro j hl H3 O3 hj - ⟨l3, hO3⟩
 obtain ⟨vlen, _⟩ := lP hA
 refine aa _ vlen (aa _ (aA _ _) (ai (fun hlt2 => ?_) (fun hge2 => ?_)))
 rotate_left
 ·have hge2 : acc.length ≤ j := by have := of_decide_eq_false hge2; omega
  rw [List.take_of_length_le hge2] at hO3
  exact aa _ (av (by omega)) (bT (by simp [Eqs, E, Es]) hlt ⟨hA.le l3, Heap.le_trans l2 l3, hO3⟩)
 have hlt2 : j < acc.length := by have := of_decide_eq_true hlt2; omega
 obtain ⟨a, k1, k2, q3, q4⟩ := tD O3 (hA.le l3) hlt2
 have htk : acc.take (j + 1) = acc.take j ++ [acc[j]] := by rw [List.take_add_one, List.getElem?_eq_getElem hlt2, Option.toList_some]
 refine aa _ k1 (au rfl (ao (vs := [iV acc[j].card]) q3 rfl ⟨rfl, trivial⟩ (aa _ (ap _ _) (ai (fun hb => ?_) (fun hb => ?_)))))
 ·have hb : acc[j].card = (i : Int) := by simpa using hb
  refine aa _ k1 (ao (vs := acc[j].row) k2 rfl ⟨rfl, rfl, trivial⟩ ?_)
  refine aj fun r2 => ?_
  have hgl := yC (fun x hx => (hin x hx).1) i
  have hfl : ((acc.take j).filter fun y => y.card == (i : Int)).length ≤ acc.length := Nat.le_trans (List.length_filter_le _ _) (by rw [List.length_take]; omega)
  refine cz (rows := (vR acc i ++ (acc.take j).filter fun y => y.card == (i : Int)).map Cp.row) (news := [acc[j].row]) (O1 := O3) (O2 := []) (e := an) (size := 2) (bytes := 16) (by kernel_rfl) (by simp) hO3 (fun Hf _ hf => Sl.block1 (hf _ List.mem_cons_self) rfl ⟨rfl, rfl, trivial⟩) (by simp; omega) (by simp; omega) ?_
  intro v' O1' H5 l5 hO'
  rw [List.append_nil]
  refine aa _ (av (by omega)) (bT (by simp [Eqs, E, Es]) hlt2 ⟨Heap.le_trans l3 l5, ?_⟩)
  rw [htk, List.filter_append, List.filter_cons_of_pos (by simpa using hb), List.filter_nil, ← List.append_assoc, List.map_append]
  exact hO'
 ·have hb : acc[j].card ≠ (i : Int) := by simpa using hb
  refine aa _ (av (by omega)) (bT (by simp [Eqs, E, Es]) hlt2 ⟨l3, ?_⟩)
  rw [htk, List.filter_append, List.filter_cons_of_neg (by simpa using hb), List.filter_nil, List.append_nil]
  exact hO3
end Go.Proofs.YtamgiojcbdbokaaGreatDoor
namespace Go.Sx
open Go Go.Proofs Go.Lib
set_option maxRecDepth 100000
set_option maxHeartbeats 1000000
def dD (l : List UInt8) : List (List Value) := l.map fun b => [.int .u8 b.toNat]
theorem dC (l : List UInt8) : (dD l).length = l.length := List.length_map _
theorem rc (l : List UInt8) : (dD l).flatten = strCells ⟨l.toArray⟩ := by
 have h : ∀ l : List UInt8, (dD l).flatten = l.map fun b => Value.int .u8 b.toNat := fun l => by
  induction l with
  | nil => rfl
  | cons b l ih => simp only [dD, List.map_cons, List.flatten_cons] at ih ⊢; rw [ih]; rfl
 rw [h, strCells]
theorem tY (l s : List UInt8) : dD (l ++ s) = dD l ++ dD s := List.map_append
theorem eM {l : List UInt8} {row : List Value} (h : row ∈ dD l) : row.length = 1 ∧ Ones row := by
 obtain ⟨b, _, rfl⟩ := List.mem_map.1 h
 exact ⟨rfl, rfl, trivial⟩
theorem xg {P : Program} {t u ty e : TypeId} {i : TypeInfo} (ht : P.underlying t = some (.slice e)) (hu : P.underlying u = some .string) (hi : P.info? e = some i) (hz : i.zero = some (.int .u8 0)) (hs1 : i.size = 1) (hby : i.bytes = 1)
  {v : Value} {l s : List UInt8} {H : Heap} {O1 : Go.Sx.Own} (h : OSl e 1 v (dD l) O1) (hlen : l.length + s.length ≤ 100000000) :
  bM P ((PrimOp.bi .append #[t, u] ty).sem [v, Str s]) H O1 fun v' H' O' => H' = H ∧ OSl e 1 v' (dD (l ++ s)) O' := by
 intro w F hm
 have hsz : (⟨s.toArray⟩ : ByteArray).size = s.length := by simp [ByteArray.size]
 have hsc : strCells ⟨s.toArray⟩ = (dD s).flatten := (rc s).symm
 have hsl : (dD s).flatten.length = s.length := by rw [← hsc, strCells_length, hsz]
 have grown : ∀ (cap : Nat) (olds : List Value), olds = (dD l).flatten → cap < l.length + s.length → ∀ O2, Models w H (O2 ++ F) →
   (Builtin.append_ #[t, u] ty #[v, .string ⟨s.toArray⟩]).run P w = .ok (.slice (some ⟨w.heap.size, 0, none⟩) (l.length + s.length) (grownCap w (l.length + s.length) cap e))
    (w.drew.alloc (.cells (olds.toArray ++ (strCells ⟨s.toArray⟩).toArray ++ Builtin.zeroCells (Value.int .u8 0).cells (grownCap w (l.length + s.length) cap e - (l.length + s.length))) e)) →
   ∃ r w' H' O', ((PrimOp.bi .append #[t, u] ty).sem [v, Str s]).run P w = .ok (.value r) w' ∧ (H' = H ∧ OSl e 1 r (dD (l ++ s)) O') ∧ Heap.le H H' ∧ Models w' H' (O' ++ F) := by
  intro cap olds ho hc O2 hm2 hrun
  have hd : Models w.drew H (O2 ++ F) := Models.same hm2 rfl rfl
  have hol : olds.length = l.length := by rw [ho, aH (size := 1) (fun r hr => (eM hr).1), dC, Nat.mul_one]
  have hge := grownCap_ge w (l.length + s.length) cap e
  have hcm : grownCap w (l.length + s.length) cap e ≤ maxLen := grownCap_le_maxLen w (l.length + s.length) cap e (by simp only [maxLen]; omega)
  generalize grownCap w (l.length + s.length) cap e = c2 at *
  have hp := hd.push (.cells (olds.toArray ++ (strCells ⟨s.toArray⟩).toArray ++ Builtin.zeroCells (Value.int .u8 0).cells (c2 - (l.length + s.length))) e (0, 0))
  have hcells : olds.toArray ++ (strCells ⟨s.toArray⟩).toArray ++ Builtin.zeroCells (Value.int .u8 0).cells (c2 - (l.length + s.length)) = ((dD (l ++ s)).flatten ++ (Builtin.zeroCells (Value.int .u8 0).cells (c2 - (l.length + s.length))).toList).toArray := by
   apply Array.ext'
   rw [tY, List.flatten_append, ← ho, ← hsc]
   simp
  rw [hcells] at hrun hp
  refine ⟨.slice (some ⟨w.heap.size, 0, none⟩) (l.length + s.length) c2, w.drew.alloc (.cells ((dD (l ++ s)).flatten ++ (Builtin.zeroCells (Value.int .u8 0).cells (c2 - (l.length + s.length))).toList).toArray e (0, 0)), H, [(w.heap.size, _)], ?_, ⟨rfl, .inr ⟨w.heap.size, (dD (l ++ s)).flatten ++ (Builtin.zeroCells (Value.int .u8 0).cells (c2 - (l.length + s.length))).toList, c2, ?_, rfl, ?_, ?_, ?_, fun r hr => (eM hr).1, fun r hr => (eM hr).2, ?_⟩⟩, Heap.le_refl H, ?_⟩
  ·simp only [PrimOp.sem, builtin]
   rw [Sem.run_bind]
   show Result.andThen ((Builtin.append_ #[t, u] ty #[v, .string ⟨s.toArray⟩]).run P w) _ = _
   rw [hrun]
   rfl
  ·rw [dC, List.length_append]
  ·have h1 : (Builtin.zeroCells (Value.int .u8 0).cells (c2 - (l.length + s.length))).toList.length = c2 - (l.length + s.length) := by
    rw [Array.length_toList, size_zeroCells]
    show (c2 - (l.length + s.length)) * 1 = _
    omega
   have h2 : (dD (l ++ s)).flatten.length = l.length + s.length := by rw [aH (size := 1) (fun r hr => (eM hr).1), dC, List.length_append, Nat.mul_one]
   rw [List.length_append, h1, h2]
   omega
  ·rw [dC, List.length_append]; exact hge
  ·simp only [maxLen] at hcm; omega
  ·rw [← aH (size := 1) (fun r hr => (eM hr).1), List.take_left]
  ·refine hp.sub ?_
   rw [List.singleton_append]
   exact (List.sublist_append_right O2 F).cons_cons _
 have hown := fun hne => h.ownsRow (w := w) (F := F) hne hm
 rcases h with ⟨⟨a, rfl⟩, hr, rfl⟩ | ⟨r, cs, cap, rfl, rfl, hcl, hlc, hcap, hl, ho, htk⟩
 ·have hl0 : l = [] := by simpa [dD] using hr
  subst hl0
  by_cases hs0 : s = []
  ·subst hs0
   refine ⟨.slice a 0 0, w, H, [], ?_, ⟨rfl, .inl ⟨⟨a, rfl⟩, rfl, rfl⟩⟩, Heap.le_refl H, hm⟩
   simp only [PrimOp.sem, builtin]
   rw [Sem.run_bind]
   have : (Builtin.append_ #[t, u] ty #[.slice a 0 0, .string ⟨#[]⟩]).run P w = .ok (.slice a 0 0) w := by
    cases a <;> simp [Builtin.append_, run_underlying ht, run_underlying hu, sizeOf, typeInfo, hi, Builtin.lenOf, Builtin.firstCells, storeCells, ByteArray.size]
   show Result.andThen ((Builtin.append_ #[t, u] ty #[.slice a 0 0, .string ⟨#[]⟩]).run P w) _ = _
   rw [this]
   rfl
  ·have hpos : 0 < s.length := List.length_pos_iff.2 hs0
   refine grown 0 [] rfl (by simp; omega) [] hm ?_
   cases a with
   | none =>
    have hr := run_append_nil_string (P := P) w t u ty e i (.int .u8 0) ht hu hi hz ⟨s.toArray⟩ (by rw [hsz]; omega) (by rw [hsz]; omega) (by rw [hby, hsz]; omega)
    rw [hsz] at hr
    simp only [List.length_nil, Nat.zero_add, Array.empty_append]
    have e1 : ((⟨s.toArray⟩ : ByteArray).data.map fun b => Value.int .u8 b.toNat) = (strCells ⟨s.toArray⟩).toArray := by
     apply Array.ext'
     simp [strCells]
    rw [e1] at hr
    exact hr
   | some b =>
    have hr := run_append_grow_string (P := P) w t u ty e i (.int .u8 0) ht hu hi hz b 0 0 [] (by simp) (by simp) ⟨s.toArray⟩ (by rw [hsz]; omega) (by rw [hsz]; omega) (by rw [hby]; exact growslice_fits (by rw [hsz]; omega) (by rw [hsz]; omega))
    rw [hsz] at hr
    exact hr
 ·rw [dC] at hlc htk grown ⊢
  have hrow := (hm.own (r, .cells cs.toArray e (0, 0)) (by simp)).1
  have htk' : cs.take l.length = (dD l).flatten := by simpa using htk
  by_cases hroom : l.length + s.length ≤ cap
  ·have hrun := run_append_room_string (P := P) w t u ty e i ht hu hi hs1 r l.length cap cs.toArray hrow ⟨s.toArray⟩ (by rw [hsz]; exact hroom) (by rw [hsz, List.size_toArray]; omega)
   rw [hsz] at hrun
   have hnew : cs.toArray.toList.take l.length ++ strCells ⟨s.toArray⟩ ++ cs.toArray.toList.drop (l.length + s.length) = (dD (l ++ s)).flatten ++ cs.drop (l.length + s.length) := by
    rw [tY, List.flatten_append, ← htk', ← hsc]
   rw [hnew] at hrun
   have h2 : (dD (l ++ s)).flatten.length = l.length + s.length := by rw [aH (size := 1) (fun r hr => (eM hr).1), dC, List.length_append, Nat.mul_one]
   refine ⟨.slice (some ⟨r, 0, none⟩) (l.length + s.length) cap, w.setRow r ((dD (l ++ s)).flatten ++ cs.drop (l.length + s.length)).toArray, H, [(r, .cells ((dD (l ++ s)).flatten ++ cs.drop (l.length + s.length)).toArray e (0, 0))], ?_, ⟨rfl, .inr ⟨r, (dD (l ++ s)).flatten ++ cs.drop (l.length + s.length), cap, ?_, rfl, ?_, ?_, hcap, fun r hr => (eM hr).1, fun r hr => (eM hr).2, ?_⟩⟩, Heap.le_refl H, ?_⟩
   ·simp only [PrimOp.sem, builtin]
    rw [Sem.run_bind]
    show Result.andThen ((Builtin.append_ #[t, u] ty #[.slice (some ⟨r, 0, none⟩) l.length cap, .string ⟨s.toArray⟩]).run P w) _ = _
    rw [hrun]
    rfl
   ·rw [dC, List.length_append]
   ·rw [List.length_append, h2, List.length_drop]; omega
   ·rw [dC, List.length_append]; exact hroom
   ·rw [← aH (size := 1) (fun r hr => (eM hr).1), List.take_left]
   ·exact wJ (vs := cs) hm
  ·refine grown cap (dD l).flatten rfl (by omega) [(r, .cells cs.toArray e (0, 0))] hm ?_
   have hrun := run_append_grow_string (P := P) w t u ty e i (.int .u8 0) ht hu hi hz ⟨r, 0, none⟩ l.length cap (dD l).flatten (by rw [aH (size := 1) (fun r hr => (eM hr).1), dC, hs1]) (fun j u hj => ?_) ⟨s.toArray⟩ (by rw [hsz]; omega) (by rw [hsz]; omega) (by rw [hby]; exact growslice_fits (by rw [hsz]; omega) (by rw [hsz]; omega))
   ·rw [hsz] at hrun
    exact hrun
   ·exact (hown (by simp)).cells (g := r) rfl j u hj
end Go.Sx
namespace Go.Proofs.YtamgiojcbdbokaaGreatDoor
open Go Go.Sx
open Go.Sx (Own)
set_option maxRecDepth 100000
set_option maxHeartbeats 1000000
abbrev mG : TypeId := 94
theorem B6 {k : Nat} {p v : Value} {T : TypeId} {O1 : Go.Sx.Own} (H : Heap) : Reads H ((k, .cells #[p, v] T (0, 0)) :: O1) (pP k) 1 [p] := .inr ⟨⟨k, 0, none⟩, #[p, v], T, rfl, rfl, List.mem_cons_self, rfl, rfl⟩
theorem B5 {k : Nat} {p v : Value} {T : TypeId} {O1 : Go.Sx.Own} (H : Heap) : Reads H ((k, .cells #[p, v] T (0, 0)) :: O1) (bI (pP k) 1) 1 [v] := .inr ⟨⟨k, 1, none⟩, #[p, v], T, rfl, rfl, List.mem_cons_self, rfl, rfl⟩
theorem sC : ∃ j, PP.info? mG = some j ∧ j.size = 2 := by
 have h : (PP.info? mG).map (·.size) = some 2 := by kernel_rfl
 exact Option.map_eq_some_iff.1 h
theorem tW {w : World} {H : Heap} {k : Nat} {p v : Value} {F : Go.Sx.Own} (hm : Models w H ((k, .cells #[p, v] mG (0, 0)) :: F)) : w.shape? k = some (mG, 2) := by
 have h : w.heap[k]? = some (.cells #[p, v] mG (0, 0)) := (hm.own (k, .cells #[p, v] mG (0, 0)) (by simp)).1
 simp [World.shape?, h]
theorem B2 {w : World} {H : Heap} {k : Nat} {p v : Value} {F : Go.Sx.Own} (hm : Models w H ((k, .cells #[p, v] mG (0, 0)) :: F)) : ((PrimOp.convert 91 159).sem [pP k]).run PP w = .ok (.value (pP k)) w := by
 obtain ⟨j, hj, hs⟩ := sC
 have := Go.Lib.run_to_unsafe (P := PP) (src := 91) (dst := 159) (t := mG) w ⟨k, 0, none⟩ (by kernel_rfl) (by kernel_rfl) hj (by omega) (tW hm) (by show 0 < 2; omega)
 simp only [PrimOp.sem]
 rw [Sem.run_bind]
 show Result.andThen ((convert 91 159 (.pointer (some ⟨k, 0, none⟩))).run PP w) _ = _
 rw [this]
 rfl
theorem B7 {w : World} {H : Heap} {k : Nat} {p v : Value} {F : Go.Sx.Own} (hm : Models w H ((k, .cells #[p, v] mG (0, 0)) :: F)) : ((PrimOp.convert 159 91).sem [pP k]).run PP w = .ok (.value (pP k)) w := by
 obtain ⟨j, hj, hs⟩ := sC
 have := Go.Lib.run_from_unsafe (P := PP) (src := 159) (dst := 91) (u := mG) w ⟨k, 0, none⟩ (by kernel_rfl) (by kernel_rfl) hj (tW hm) (by kernel_rfl)
 simp only [PrimOp.sem]
 rw [Sem.run_bind]
 show Result.andThen ((convert 159 91 (.pointer (some ⟨k, 0, none⟩))).run PP w) _ = _
 rw [this]
 rfl
theorem B8 (k : Nat) (w : World) : ((PrimOp.intr 92).sem [pP k]).run PP w = .ok (.value (pP k)) w :=
 zF Tryz.func92 (by kernel_rfl) (by kernel_rfl) (by kernel_rfl) (e := Extern.AbiNoEscape.same) (by kernel_rfl) (fun _ => rfl) w
section
open Go.RowKit Go.Shelf
theorem zU {k : Nat} {v : Value} (H : Heap) : RetO PP bE [pP k] H [(k, .cells #[pP k, v] mG (0, 0))] (.tuple #[]) := by
 refine eO fun w F hm => ?_
 obtain ⟨j, hj, hjs⟩ := sC
 have hbk : w.heap[k]? = some (.cells #[pP k, v] mG (0, 0)) := (hm.own (k, .cells #[pP k, v] mG (0, 0)) (by simp)).1
 have h0 : w.cell? ⟨k, 0, none⟩ = some (.pointer (some ⟨k, 0, none⟩)) := by
  rw [Lib.cell_of_heap hbk]; rfl
 have mixed : Tryz.prog.follows .mixedOrders = true := mixed
 have t91 : Tryz.prog.underlying 91 = some (.pointer mG) := by kernel_rfl
 show Calls Tryz.prog 59 #[.pointer (some ⟨k, 0, none⟩)] w _
 go_enter Tryz.func59, Tryz.ntmps59
 go_wp2
 rw [Lib.run_neq_ptr_same w _ t91 hj]
 go_wp2
 go_end0
 exact ⟨rfl, fun _ _ => rfl, rfl⟩
end
theorem uX {k : Nat} {p v : Value} (hp : p = .pointer none ∨ p = pP k) (H : Heap) : Triple PP bE [pP k] H [(k, .cells #[p, v] mG (0, 0))] fun r H' O' => r = .tuple #[] ∧ O' = [(k, .cells #[pP k, v] mG (0, 0))] := by
 rcases hp with rfl | rfl
 rotate_left
 ·exact zU H
 refine fc (vs := [pP k]) (by kernel_rfl) ⟨rfl, trivial⟩ ?_
 simp only [cZ]
 refine au rfl (au rfl ?_)
 refine ao (vs := [.pointer none]) (B6 H) rfl ⟨rfl, trivial⟩ ?_
 ·refine aa (.bool true) rfl (ai (fun _ => ?_) (fun hd => by cases hd))
  refine rH (fun w F hm => B2 (by simpa using hm)) rfl (vs := [pP k]) ⟨rfl, trivial⟩ ?_
  refine zr (fun w => B8 k w) rfl (vs := [pP k]) ⟨rfl, trivial⟩ ?_
  refine rH (fun w F hm => B7 (by simpa using hm)) rfl (vs := [pP k]) ⟨rfl, trivial⟩ ?_
  refine au rfl (au rfl (au rfl ?_))
  refine ⟨_, ⟨⟨k, 0, none⟩, #[.pointer none, v], mG, [], rfl, rfl, List.Perm.refl _, by show 0 + 1 ≤ 2; omega, rfl⟩, ?_⟩
  exact af ⟨rfl, rfl⟩
theorem wa {P : Program} {f : FuncId} {args : List Value} {H : Heap} {O : Go.Sx.Own} {k : Nat} {T : TypeId} {cells : List Value} {R : Value → List Value → Go.Sx.Own → Prop} {shp : Shp} {K : List Value → List (List Value) → Heap → Go.Sx.Own → Prop}
  (h : Triple P f args H ((k, .cells cells.toArray T (0, 0)) :: O) fun v _ O' => ∃ cs O3, O' = (k, .cells cs.toArray T (0, 0)) :: O3 ∧ cs.length = cells.length ∧ Ones cs ∧ R v cs O3)
  (hk : ∀ v cs H' O3, R v cs O3 → Heap.le H H' → ∃ vs, shp.open v = some vs ∧ Ones vs ∧ K vs [cs] H' O3) : cR (fun H1 O1 R => Triple P f args H1 O1 R) false [] [⟨k, T, cells⟩] shp K H O := by
 intro _
 refine ⟨H, O, [], _, Ghost.perm (by simp), h, ?_⟩
 rintro v H' O' ⟨cs, O3, rfl, hl, h1, hr⟩ hle
 obtain ⟨vs, a, b, c⟩ := hk v cs H' O3 hr hle
 exact ⟨vs, [cs], O3, a, b, ⟨hl, h1, trivial⟩, rfl, by simpa using c⟩
theorem Fo : ∃ i, PP.info? 5 = some i ∧ i.zero = some (.int .u8 0) ∧ i.size = 1 ∧ i.bytes = 1 := by
 have h : (PP.info? 5).map (fun i => (i.zero, i.size, i.bytes)) = some (some (.int .u8 0), 1, 1) := by kernel_rfl
 obtain ⟨i, hi, e⟩ := Option.map_eq_some_iff.1 h
 simp only [Prod.mk.injEq] at e
 exact ⟨i, hi, e.1, e.2.1, e.2.2⟩
theorem sq {k : Nat} {p v : Value} (hp : p = .pointer none ∨ p = pP k) {l s : List UInt8} (hn : l.length + s.length ≤ 1000000) (H : Heap) {O1 : Go.Sx.Own} (h : OSl 5 1 v (dD l) O1) :
  Triple PP cI [pP k, Str s] H ((k, .cells [p, v].toArray mG (0, 0)) :: O1) fun r _ O' => ∃ cs O3, O' = (k, .cells cs.toArray mG (0, 0)) :: O3 ∧ cs.length = [p, v].length ∧ Ones cs ∧
   (r = .tuple #[iV s.length, .nilIface] ∧ ∃ v', cs = [pP k, v'] ∧ OSl 5 1 v' (dD (l ++ s)) O3) := by
 refine eE (vs := [pP k, Str s]) (by kernel_rfl) ⟨rfl, rfl, trivial⟩ ?_
 simp only [cG]
 refine cF (O1 := [(k, .cells #[p, v] mG (0, 0))]) (O2 := O1) (List.Perm.refl _) (uX hp H) ?_
 rintro r H1 _ ⟨rfl, rfl⟩ l1
 refine ⟨[], rfl, trivial, ?_⟩
 refine au rfl (au rfl ?_)
 refine ao (vs := [v]) (B5 H1) rfl ⟨h.one, trivial⟩ ?_
 obtain ⟨i, hi, hz, hs, hb⟩ := Fo
 have ha := xg (P := PP) (ty := 92) (H := H1) CU EX hi hz hs hb h (s := s) (by omega)
 intro _
 refine ⟨H1, O1, [(k, .cells #[pP k, v] mG (0, 0))], _, Ghost.perm (List.perm_append_comm (l₁ := [_]) (l₂ := O1)), ha, ?_⟩
 rintro v' H2 O2 ⟨rfl, h2⟩ l2
 refine ⟨[v'], [], O2, rfl, ⟨h2.one, trivial⟩, trivial, rfl, ?_⟩
 refine au rfl (au rfl (au rfl ?_))
 refine ⟨_, ⟨⟨k, 1, none⟩, #[pP k, v], mG, O2, rfl, rfl, List.perm_append_comm (l₁ := O2) (l₂ := [_]), by show 1 + 1 ≤ 2; omega, rfl⟩, ?_⟩
 refine aa _ (cK s) ?_
 exact af ⟨[pP k, v'], O2, rfl, rfl, ⟨rfl, h2.one, trivial⟩, rfl, v', rfl, h2⟩
section
open Go.RowKit Go.Shelf
set_option maxHeartbeats 2000000 in
theorem yT {k : Nat} {p v : Value} (hp1 : p.oneCell' = true) {l : List UInt8} (hl0 : l ≠ []) (hlen : l.length ≤ 1000000) (H : Heap) {O1 : Go.Sx.Own} (h : OSl 5 1 v (dD l) O1) :
  Triple PP 41 [pP k] H ((k, .cells [p, v].toArray mG (0, 0)) :: O1) fun r _ O' => ∃ cs O3, O' = (k, .cells cs.toArray mG (0, 0)) :: O3 ∧ cs.length = [p, v].length ∧ Ones cs ∧ (cs = [p, v] ∧ r = Str l ∧ O3 = []) := by
 intro w F hm
 rcases h with ⟨_, h0, _⟩ | ⟨g, cs, cap, rfl, rfl, hcl, hlc, hcap, hrl, ho, htk⟩
 ·cases l with
  | nil => exact absurd rfl hl0
  | cons a l => cases h0
 rw [dC] at hlc htk hm ⊢
 have hbk : w.heap[k]? = some (.cells #[p, .slice (some ⟨g, 0, none⟩) l.length cap] mG (0, 0)) := (hm.own (k, .cells #[p, .slice (some ⟨g, 0, none⟩) l.length cap] mG (0, 0)) (by simp)).1
 have hbg : w.heap[g]? = some (.cells cs.toArray 5 (0, 0)) := (hm.own (g, .cells cs.toArray 5 (0, 0)) (by simp)).1
 have hlp : 0 < l.length := List.length_pos_iff.2 hl0
 have c1 : w.drew.cell? ⟨k, 1, none⟩ = some (.slice (some ⟨g, 0, none⟩) l.length cap) := by
  have : w.drew.heap[k]? = some (.cells #[p, .slice (some ⟨g, 0, none⟩) l.length cap] mG (0, 0)) := hbk
  rw [Lib.cell_of_heap this]; rfl
 have hSD : (Builtin.unsafeSliceData_ #[92] 130 #[.slice (some ⟨g, 0, none⟩) l.length cap]).run PP w.drew = .ok (.pointer (some ⟨g, 0, none⟩)) w.drew :=
  Lib.run_unsafeSliceData_row _ _ _ _ _ _ (by omega)
 have hUS : (Builtin.unsafeString_ #[130, 3] 9 #[.pointer (some ⟨g, 0, none⟩), .int .i64 l.length]).run PP w.drew = .ok (.string ⟨l.toArray⟩) (w.drew.freeze ⟨g, 0, none⟩ l.length) := by
  refine Lib.run_unsafeString_row w.drew 130 3 9 5 (by kernel_rfl) (by kernel_rfl) g cs.toArray.size (by have hg' : w.drew.heap[g]? = some (.cells cs.toArray 5 (0, 0)) := hbg; simp [World.shape?, hg']) l hl0 (by simp; omega) (by omega) ?_
  intro j x hx
  have hj : cs[j]? = some (.int .u8 x.toNat) := by
   have hjl : j < l.length := (List.getElem?_eq_some_iff.1 hx).1
   have e : (cs.take l.length)[j]? = cs[j]? := by rw [List.getElem?_take, if_pos hjl]
   rw [← e, show cs.take l.length = (dD l).flatten by simpa using htk, rc]
   simp [Go.Lib.strCells, hx]
  have hg' : w.drew.heap[g]? = some (.cells cs.toArray 5 (0, 0)) := hbg
  have ea : ({ block := g, off := 0, spot := none } : Addr).add j = ⟨g, j, none⟩ := by
   unfold Addr.add
   split <;> simp_all
  rw [ea, Lib.cell_of_heap hg']
  simpa using hj
 have hmod : Models (w.drew.freeze ⟨g, 0, none⟩ l.length) H ((k, .cells #[p, .slice (some ⟨g, 0, none⟩) l.length cap] mG (0, 0)) :: F) := by
  have hgone : ∀ j, j ≠ g → (w.drew.freeze ⟨g, 0, none⟩ l.length).heap[j]? = w.heap[j]? := fun j hj => by
   unfold World.freeze
   split
   ·rfl
   ·simp only [Array.getElem?_modify]
    rw [if_neg (Ne.symm hj)]
    rfl
  have hHg : H g = none := (hm.own (g, .cells cs.toArray 5 (0, 0)) (by simp)).2
  have hnd := hm.nodup
  simp only [List.cons_append, List.nil_append, List.map_cons, List.nodup_cons, List.mem_cons, not_or] at hnd
  refine ⟨fun b o hb => ?_, fun q hq => ?_, ?_, ?_⟩
  ·rw [hgone b (by rintro rfl; rw [hHg] at hb; cases hb)]; exact hm.pers b o hb
  ·have hq' : q ∈ (k, .cells [p, .slice (some ⟨g, 0, none⟩) l.length cap].toArray mG (0, 0)) :: [(g, .cells cs.toArray 5 (0, 0))] ++ F := by
    rcases List.mem_cons.1 hq with rfl | hq
    ·simp
    ·simp [hq]
   have hqg : q.1 ≠ g := by
    rcases List.mem_cons.1 hq with rfl | hqF
    ·exact hnd.1.1
    ·intro e
     exact hnd.2.1 (List.mem_map.2 ⟨q, hqF, e⟩)
   rw [hgone _ hqg]
   exact hm.own q hq'
  ·simp only [List.map_cons, List.nodup_cons]
   exact ⟨hnd.1.2, hnd.2.2⟩
  ·have : cQ (w.drew.freeze ⟨g, 0, none⟩ l.length) = cQ w := by
    unfold World.freeze
    split <;> rfl
   rw [this]; exact hm.env
 have mixed : Tryz.prog.follows .mixedOrders = true := mixed
 show Calls Tryz.prog 41 #[.pointer (some ⟨k, 0, none⟩)] w _
 go_enter Tryz.func41, Tryz.ntmps41
 go_wp2
 go_region_o
 all_goals (go_wp2; go_ret; exact ⟨_, H, _, rfl, ⟨[p, .slice (some ⟨g, 0, none⟩) l.length cap], [], rfl, rfl, ⟨hp1, rfl, trivial⟩, rfl, rfl, rfl⟩, Heap.le_refl H, hmod⟩)
end
abbrev IP (n : Nat) (R : Nat → Value → Value → Heap → Go.Sx.Own → Prop) : List Value → Heap → Go.Sx.Own → Prop := fun vs H O => ∃ (i : Nat) (p v : Value), vs = [iV i, p, v] ∧ i ≤ n ∧ R i p v H O
abbrev MP (n : Nat) : List Value → Heap → Go.Sx.Own → Nat := fun vs _ _ => match g vs 0 with | .int _ k => n - k.toNat | _ => 0
theorem wT {P : Program} {lab key : Nat} {p0 v0 : Value} {body : (List Value → Heap → Go.Sx.Own → Prop) → List Value → Tree} {H : Heap} {O : Go.Sx.Own} {Q : Value → Heap → Go.Sx.Own → Prop} (n : Nat) (R : Nat → Value → Value → Heap → Go.Sx.Own → Prop)
  (h0 : R 0 p0 v0 H O) (step : ∀ i p v H' O', i ≤ n → Heap.le H H' → R i p v H' O' → (body (Ac (IP n R) (MP n) (n - i)) [iV i, p, v]).den P Q H' O') :
  (Tree.loop lab key [iV 0, p0, v0] body).den P Q H O := by
 refine fO (IP n R) (MP n) ⟨0, p0, v0, rfl, Nat.zero_le _, h0⟩ ?_
 rintro vs H' O' _ _ hle ⟨i, p, v, rfl, hi, hr⟩
 exact step i p v H' O' hi hle hr
theorem uP {P : Program} {lab n i : Nat} {R : Nat → Value → Value → Heap → Go.Sx.Own → Prop} {p v : Value} {eqs : List (List Value × List Value)} {H : Heap} {O : Go.Sx.Own} {Q : Value → Heap → Go.Sx.Own → Prop} (he : Eqs eqs) (hi : i < n) (hr : R (i + 1) p v H O) :
  (Tree.cont lab (Ac (IP n R) (MP n) (n - i)) [iV ((i + 1 : Nat) : Int), p, v] eqs).den P Q H O := by
 refine ee he ⟨i + 1, p, v, rfl, hi, hr⟩ ?_
 show n - ((i + 1 : Nat) : Int).toNat < n - i
 simp; omega
def oG (cs : List CdF) (l : List Cp) : List UInt8 × Int := if (aE cs l).2 = 0 then (oD cs l, 0) else ([], (aE cs l).2)
theorem Du {H : Heap} {p : Value} {cs : List CdF} (h : PoolK H p cs) {v : Value} {l : List Cp} (hl : oo H v l) (hb : l.length ≤ 1000000) : RetO PP qq [p, v] H [] (.tuple #[Str (oG cs l).1, iV (oG cs l).2]) := by
 obtain ⟨h, hk⟩ := h
 refine rC (vs := [p, v]) (by kernel_rfl) ⟨h.one, hl.one, trivial⟩ ?_
 simp only [qj]
 obtain ⟨vlen, _⟩ := lP hl
 refine ak (sy h hl hb) rfl (vs := [iV (aE cs l).1, iV (aE cs l).2]) ⟨rfl, rfl, trivial⟩ fun H1 l1 => ?_
 refine aa _ (dY _ _) (ai (fun hd => ?_) (fun hd => ?_))
 ·have he : (aE cs l).2 ≠ 0 := by simpa using hd
  exact af ⟨by rw [oG, if_neg he]; rfl, rfl⟩
 have he : (aE cs l).2 = 0 := by simpa using hd
 have hR : oG cs l = (oD cs l, 0) := by rw [oG, if_pos he]
 have hval := (AC he).1
 have h := h.le l1
 have hl := hl.le l1
 have hll : (l.length : Int) ≤ 60 := by have := (uh hval.1).2; have := hval.2.2.2; omega
 refine aj fun r0 => ?_
 refine aa _ vlen ?_
 refine wT l.length (fun i p v H' O' => (p = .pointer none ∨ p = pP r0) ∧ OSl 5 1 v (dD (oD cs (l.take i))) O' ∧ (oD cs (l.take i)).length ≤ 36 * i ∧ Heap.le H1 H') ⟨.inl rfl, OSl.nil _ _, Nat.le_refl _, Heap.le_refl _⟩ ?_
 rintro i q bv H2 O2 hi - ⟨hp, hO, hlen, l2⟩
 refine aa _ (aA _ _) (ai (fun hlt => ?_) (fun hge => ?_))
 ·have hlt : i < l.length := by have := of_decide_eq_true hlt; omega
  obtain ⟨a, k1, k2, _, _⟩ := tD O2 (hl.le l2) hlt
  have hs := xr (cs := cs) hlt
  have hx := hval.1 _ (List.getElem_mem hlt)
  have hll2 := zB hk hx
  generalize l[i] = x at *
  obtain ⟨hin, w1, w2, _⟩ := hx
  have hnm := (An (hk _ (vZ hin))).2
  obtain ⟨n, hn⟩ : ∃ n : Nat, x.n = (n : Int) := ⟨x.n.toNat, by omega⟩
  have hnn : x.n.toNat = n := by omega
  have hd := uN (n := n) (by omega)
  have hlv : rQ cs x = Go.Lib.decDigits n ++ [32] ++ (ip cs x.card).nm ++ [10] := by rw [rQ, hnn]
  refine aa _ k1 (ao k2 rfl ⟨rfl, rfl, trivial⟩ (aj fun r1 => ?_))
  refine ae (ae ?_)
  refine bh (sr (h.le l2) x.card) ?_
  rintro _ H3 _ ⟨⟨cells, rfl, c1, c2⟩, rfl⟩ l3
  have hc := c2.nm.1
  refine ⟨cells ++ [iV (fS cs x.card)], ot c1, mh c2.ones ⟨rfl, trivial⟩, aj fun r2 => ?_⟩
  refine ae (ae (ae ?_))
  rw [show g x.row 1 = iV (n : Int) from by rw [← hn]; rfl]
  refine ak (BR n (by omega) _ _) rfl ⟨rfl, trivial⟩ fun H4 l4 => ?_
  rw [show g (cells ++ [iV (fS cs x.card)]) 0 = Str (ip cs x.card).nm from (xK c1 (by omega)).trans hc]
  have hi60 : i < 60 := by omega
  refine aa _ (oI (b := [32]) (by simp; omega)) ?_
  refine aa _ (oI (by simp; omega)) ?_
  refine aa _ (oI (b := [10]) (by simp; omega)) ?_
  refine wa (k := r0) (T := 94) (cells := [q, bv]) (sq hp (by rw [← hlv]; omega) H4 hO) ?_
  rintro _ _ H5 O5 ⟨rfl, v', rfl, hO5⟩ l5
  refine ⟨[iV _, .nilIface], rfl, ⟨rfl, rfl, trivial⟩, ?_⟩
  refine aa _ (av (by omega)) (uP (by simp [Eqs, E]) hlt ⟨.inr rfl, ?_, ?_, Heap.le_trans l2 (Heap.le_trans l3 (Heap.le_trans l4 l5))⟩)
  ·rw [hs, hlv]; exact hO5
  ·rw [hs, List.length_append]; omega
 ·have hge : l.length ≤ i := by have := of_decide_eq_false hge; omega
  rw [List.take_of_length_le hge] at hO hlen
  have hne : oD cs l ≠ [] := by
   cases l with
   | nil => exact absurd hval.2.2.1 (by decide)
   | cons x l => rw [oD, List.flatMap_cons, rQ]; simp
  refine wa (k := r0) (T := 94) (cells := [q, bv]) (yT (by rcases hp with rfl | rfl <;> rfl) hne (by omega) H2 hO) ?_
  rintro _ _ H5 _ ⟨rfl, rfl, rfl⟩ l5
  refine ⟨[Str (oD cs l)], rfl, ⟨rfl, trivial⟩, ?_⟩
  exact af ⟨by rw [hR]; rfl, rfl⟩
theorem BE {H : Heap} {p : Value} {cs : List CdF} (h : PoolK H p cs) {v : Value} {l : List Cp} (hl : oo H v l) (hb : l.length ≤ 1000000) (s : List UInt8) (e : Int) : RetO PP dw [p, v, Str s, iV e] H [] (.bool ((oG cs l).1 == s && (oG cs l).2 == e)) := by
 refine jN (vs := [p, v, Str s, iV e]) (by kernel_rfl) ⟨h.1.one, hl.one, rfl, rfl, trivial⟩ ?_
 simp only [ft]
 refine ak (Du h hl hb) rfl (vs := [Str (oG cs l).1, iV (oG cs l).2]) ⟨rfl, rfl, trivial⟩ fun H1 l1 => ?_
 refine aa _ (rn _ _) ?_
 refine ab (ab (aa _ (ap _ _) (ab (aa _ (ar _ _) ?_))))
 exact af ⟨rfl, rfl⟩
def tA : List Cp := [⟨0, 18⟩, ⟨1, 4⟩]
theorem kv1 : aE aK tA = (-1, 0) := by decide +kernel
theorem kv2 : aE aK [⟨0, 18⟩, ⟨1, 5⟩] = (1, 7) := by decide +kernel
theorem kv3 : aE aK [⟨0, 18⟩, ⟨3, 1⟩] = (1, 3) := by decide +kernel
theorem kv4 : aE aK [⟨1, 4⟩, ⟨0, 18⟩] = (1, 2) := by decide +kernel
theorem kv5 : aE aK [⟨0, 0⟩] = (0, 2) := by decide +kernel
theorem kv6 : aE aK [⟨0, 19⟩] = (-1, 4) := by decide +kernel
theorem kv7 : aE aK [⟨0, 60⟩, ⟨2, 1⟩] = (-1, 5) := by decide +kernel
theorem kv8 : aE aK [⟨0, 61⟩] = (0, 2) := by decide +kernel
theorem Et : cU [2, 0, 0] = [0, 0, 2] := by simp [cU, List.mergeSort, List.MergeSort.Internal.splitInTwo, List.merge]
theorem kv9 : ofV [2, 0, 0] = ([⟨0, 2⟩, ⟨2, 1⟩], 0) := by
 rw [ofV, if_neg (by decide), if_neg (by decide), Et]
 decide +kernel
theorem Fj : ofV [-1] = ([], 2) := by decide +kernel
theorem Fh : oD aK tA = [49, 56, 32, 87, 101, 108, 108, 10, 52, 32, 74, 111, 108, 116, 10] := by decide +kernel
theorem Fg : qK aK 1 tA = 18 := by decide +kernel
theorem Ff : qK aK 0 tA = 22 := by decide +kernel
theorem Af (a b : Int) : fJ [⟨1, a⟩, ⟨0, b⟩] = [⟨0, b⟩, ⟨1, a⟩] := qN (List.Perm.swap _ _ _) (b := -1) ⟨show (-1 : Int) < 0 by decide, show (0 : Int) < 1 by decide, trivial⟩
abbrev s14 : List UInt8 := [52, 32, 74, 111, 108, 116, 10, 49, 56, 32, 87, 101, 108, 108, 10]
theorem Fe : bJ aK s14 = (tA, 0, 0) := by
 have h : bP aK (b7 s14.length s14) [] 0 = .inl [⟨1, 4⟩, ⟨0, 18⟩] := by decide +kernel
 rw [bJ, h]
 simp only []
 rw [Af, if_neg (by decide +kernel)]
 rfl
theorem Fb : bJ aK [49, 56, 32, 87, 101, 108, 108, 10, 52, 32, 106, 111, 108, 116, 10] = ([], 2, 9) := by decide +kernel
theorem Fa : bJ aK [49, 56, 32, 87, 101, 108, 108, 10, 50, 32, 87, 101, 108, 108, 10] = ([], 2, 11) := by decide +kernel
theorem E9 : bJ aK [48, 52, 32, 74, 111, 108, 116, 10] = ([], 1, 6) := by decide +kernel
abbrev s18 : List UInt8 := [53, 32, 74, 111, 108, 116, 10, 49, 56, 32, 87, 101, 108, 108, 10]
theorem E8 : bJ aK s18 = ([], 0, 7) := by
 have h : bP aK (b7 s18.length s18) [] 0 = .inl [⟨1, 5⟩, ⟨0, 18⟩] := by decide +kernel
 rw [bJ, h]
 simp only []
 rw [Af, if_pos (by decide +kernel), show aE aK [⟨0, 18⟩, ⟨1, 5⟩] = (1, 7) from kv2]
theorem E7 : bJ aK [] = ([], 0, 4) := by decide +kernel
theorem bq {P : Program} {f : FuncId} {args : List Value} {H : Heap} {O : Go.Sx.Own} {frz : List BV} {r : Value} {shp : Shp} {vs : List Value} {K : List Value → List (List Value) → Heap → Go.Sx.Own → Prop}
  (h : ∀ Hf, Heap.le H Hf → (∀ b ∈ frz, Hf b.r = some b.obj.2) → RetO P f args Hf [] r) (ho : shp.open r = some vs) (h1 : Ones vs) (hk : ∀ H', Heap.le H H' → (∀ b ∈ frz, H' b.r = some b.obj.2) → K vs [] H' O) :
  cR (fun H1 O1 R => Triple P f args H1 O1 R) false frz [] shp K H O := by
 intro hc
 have hf := eH hc
 refine ⟨H.insAll frz, [], O, _, Ghost.refl _ _, h _ (Heap.le_insAll frz H) hf, ?_⟩
 rintro v H' O' ⟨rfl, rfl⟩ hle
 exact ⟨vs, [], [], ho, h1, trivial, rfl, hk _ (Heap.le_trans (Heap.le_insAll frz H) hle) fun b hb => hle.1 _ _ (hf b hb)⟩
theorem io {H : Heap} {r n : Nat} {T : TypeId} (l : List Cp) (hn : n = l.length) (h : H r = some (.cells (l.map Cp.row).flatten.toArray T (0, 0))) (hb : l.length < 1000) : oo H (.slice (some ⟨r, 0, none⟩) n n) l := by
 refine um (by simpa using hn) h (fun row hr => ?_) (fun row hr => ?_) (by rw [List.length_map]; omega)
 ·obtain ⟨c, _, rfl⟩ := List.mem_map.1 hr; rfl
 ·obtain ⟨c, _, rfl⟩ := List.mem_map.1 hr; exact ⟨rfl, rfl, trivial⟩
theorem vN {H : Heap} {r n : Nat} {T : TypeId} (l : List Int) (hn : n = l.length) (h : H r = some (.cells (bN l).flatten.toArray T (0, 0))) (hb : l.length < 1000) : Sl H 1 (.slice (some ⟨r, 0, none⟩) n n) (bN l) := by
 have hl : (bN l).length = l.length := by simp [bN]
 refine um (hn.trans hl.symm) h (fun row hr => ?_) (fun row hr => ?_) (by omega)
 ·obtain ⟨c, _, rfl⟩ := List.mem_map.1 hr; rfl
 ·obtain ⟨c, _, rfl⟩ := List.mem_map.1 hr; exact ⟨rfl, trivial⟩
theorem m0 (H : Heap) : oo H (.slice none 0 0) [] := Sl.nil _ _
theorem gZ {H : Heap} {p : Value} (h : PoolK H p aK) {v : Value} {l : List Cp} (hl : oo H v l) (hb : l.length ≤ 1000000) {i e : Int} (hv : aE aK l = (i, e)) : RetO PP di [p, v, iV i, iV e] H [] (.bool true) := by
 have := zT h.1 hl hb i e
 rw [hv] at this
 simpa using this
theorem Au {H : Heap} {v v' : Value} {zs : List Int} {l : List Cp} (hs : Sl H 1 v (bN zs)) (h' : oo H v' l) {e : Int} (hv : ofV zs = (l, e)) : RetO PP dN [v, v', iV e] H [] (.bool true) := by
 have := Dt hs h' e
 rw [hv] at this
 simpa using this
theorem Bm {H : Heap} {p : Value} {cs : List CdF} (h : PoolK H p cs) {v : Value} {l : List Cp} (hl : oo H v l) (hb : l.length ≤ 1000000) {s : List UInt8} {e : Int} (hv : oG cs l = (s, e)) : RetO PP dw [p, v, Str s, iV e] H [] (.bool true) := by
 have := BE h hl hb s e
 rw [hv] at this
 simpa using this
theorem vM {H : Heap} {p : Value} {cs : List CdF} (h : PoolK H p cs) {v : Value} {l : List Cp} (hl : oo H v l) (hb : l.length ≤ 1000000) {k i e : Int} (hv : lr cs l k = (i, e)) : RetO PP dh [p, v, iV k, iV i, iV e] H [] (.bool true) := by
 have := zS h.1 hl hb k i e
 rw [hv] at this
 simpa using this
theorem kX {H : Heap} {p v : Value} {cs : List CdF} (hp : PoolK H p cs) (hG : GlobOk H) {s : List UInt8} (hs : s.length ≤ 1000) {l : List Cp} (h' : oo H v l) {m e : Int} (hv : bJ cs s = (l, m, e)) : RetO PP de [p, Str s, v, iV m, iV e] H [] (.bool true) := by
 have := wb hp.1 hG hs h' m e
 rw [hv] at this
 simpa using this
theorem BH {H : Heap} (hG : GlobOk H) : RetO PP fF [] H [] (.bool true) := by
 refine jO (vs := []) (by kernel_rfl) trivial ?_
 simp only [fu]
 refine bh (BI H) ?_
 rintro cv H1 _ ⟨hcv, rfl⟩ l1
 refine ⟨[cv], rfl, ⟨hcv.one, trivial⟩, ?_⟩
 have hG := hG.le l1
 refine bh (Ds hcv) ?_
 rintro _ H2 _ ⟨⟨p, rfl, h⟩, rfl⟩ l2
 have hG := hG.le l2
 refine ⟨[p, iV 0], rfl, ⟨h.1.one, rfl, trivial⟩, ?_⟩
 have hpp : ah (.bin .eql .ptr) [p, .pointer none] = some (.bool false) := by
  obtain ⟨r, _, _, _, rfl, _⟩ := h.1
  rfl
 refine aa _ hpp ?_
 refine ab ?_
 refine aa _ (dY _ _) ?_
 refine ab ?_
 refine aa _ (ay _ _) (ai (fun hd => by cases hd) (fun _ => ?_))
 refine aj fun r0 => ?_
 refine bq (r := .bool true) (fun Hf lf hf => gZ (h.le lf) (io tA rfl (hf _ List.mem_cons_self) (by decide)) (by decide) kv1) rfl ⟨rfl, trivial⟩ fun H3 l3 f3 => ?_
 have h := h.le l3
 have hG := hG.le l3
 have hg : oo H3 (.slice (some ⟨r0, 0, none⟩) 2 2) tA := io tA rfl (f3 _ List.mem_cons_self) (by decide)
 refine aa _ (az _) (ai (fun hd => by cases hd) (fun _ => ?_))
 refine aj fun r1 => ?_
 refine bq (r := .bool true) (fun Hf lf hf => gZ (h.le lf) (io [⟨0, 18⟩, ⟨1, 5⟩] rfl (hf _ List.mem_cons_self) (by decide)) (by decide) kv2) rfl ⟨rfl, trivial⟩ fun H4 l4 f4 => ?_
 have h := h.le l4
 have hG := hG.le l4
 have hg := hg.le l4
 refine aa _ (az _) (ai (fun hd => by cases hd) (fun _ => ?_))
 refine aj fun r2 => ?_
 refine bq (r := .bool true) (fun Hf lf hf => gZ (h.le lf) (io [⟨0, 18⟩, ⟨3, 1⟩] rfl (hf _ List.mem_cons_self) (by decide)) (by decide) kv3) rfl ⟨rfl, trivial⟩ fun H5 l5 f5 => ?_
 have h := h.le l5
 have hG := hG.le l5
 have hg := hg.le l5
 refine aa _ (az _) (ai (fun hd => by cases hd) (fun _ => ?_))
 refine aj fun r3 => ?_
 refine bq (r := .bool true) (fun Hf lf hf => gZ (h.le lf) (io [⟨1, 4⟩, ⟨0, 18⟩] rfl (hf _ List.mem_cons_self) (by decide)) (by decide) kv4) rfl ⟨rfl, trivial⟩ fun H6 l6 f6 => ?_
 have h := h.le l6
 have hG := hG.le l6
 have hg := hg.le l6
 refine aa _ (az _) (ai (fun hd => by cases hd) (fun _ => ?_))
 refine aj fun r4 => ?_
 refine bq (r := .bool true) (fun Hf lf hf => gZ (h.le lf) (io [⟨0, 0⟩] rfl (hf _ List.mem_cons_self) (by decide)) (by decide) kv5) rfl ⟨rfl, trivial⟩ fun H7 l7 f7 => ?_
 have h := h.le l7
 have hG := hG.le l7
 have hg := hg.le l7
 refine aa _ (az _) (ai (fun hd => by cases hd) (fun _ => ?_))
 refine aj fun r5 => ?_
 refine bq (r := .bool true) (fun Hf lf hf => gZ (h.le lf) (io [⟨0, 19⟩] rfl (hf _ List.mem_cons_self) (by decide)) (by decide) kv6) rfl ⟨rfl, trivial⟩ fun H8 l8 f8 => ?_
 have h := h.le l8
 have hG := hG.le l8
 have hg := hg.le l8
 refine aa _ (az _) (ai (fun hd => by cases hd) (fun _ => ?_))
 refine aj fun r6 => ?_
 refine bq (r := .bool true) (fun Hf lf hf => gZ (h.le lf) (io [⟨0, 60⟩, ⟨2, 1⟩] rfl (hf _ List.mem_cons_self) (by decide)) (by decide) kv7) rfl ⟨rfl, trivial⟩ fun H9 l9 f9 => ?_
 have h := h.le l9
 have hG := hG.le l9
 have hg := hg.le l9
 refine aa _ (az _) (ai (fun hd => by cases hd) (fun _ => ?_))
 refine aj fun r7 => ?_
 refine bq (r := .bool true) (fun Hf lf hf => gZ (h.le lf) (io [⟨0, 61⟩] rfl (hf _ List.mem_cons_self) (by decide)) (by decide) kv8) rfl ⟨rfl, trivial⟩ fun H10 l10 f10 => ?_
 have h := h.le l10
 have hG := hG.le l10
 have hg := hg.le l10
 refine aa _ (az _) (ai (fun hd => by cases hd) (fun _ => ?_))
 refine aj fun r8 => ?_
 refine aj fun r9 => ?_
 refine bq (r := .bool true) (fun Hf lf hf => Au (vN [2, 0, 0] rfl (hf _ List.mem_cons_self) (by decide)) (io [⟨0, 2⟩, ⟨2, 1⟩] rfl (hf _ (List.mem_cons_of_mem _ List.mem_cons_self)) (by decide)) kv9) rfl ⟨rfl, trivial⟩ fun H11 l11 f11 => ?_
 have h := h.le l11
 have hG := hG.le l11
 have hg := hg.le l11
 refine aa _ (az _) (ai (fun hd => by cases hd) (fun _ => ?_))
 refine aj fun r10 => ?_
 refine bq (r := .bool true) (fun Hf lf hf => Au (vN [-1] rfl (hf _ List.mem_cons_self) (by decide)) (m0 _) Fj) rfl ⟨rfl, trivial⟩ fun H12 l12 f12 => ?_
 have h := h.le l12
 have hG := hG.le l12
 have hg := hg.le l12
 refine aa _ (az _) (ai (fun hd => by cases hd) (fun _ => ?_))
 refine bq (r := .bool true) (fun Hf lf hf => Bm (h.le lf) (hg.le lf) (by decide) (s := [49, 56, 32, 87, 101, 108, 108, 10, 52, 32, 74, 111, 108, 116, 10]) (by rw [oG, if_pos (by rw [kv1]), Fh])) rfl ⟨rfl, trivial⟩ fun H13 l13 f13 => ?_
 have h := h.le l13
 have hG := hG.le l13
 have hg := hg.le l13
 refine aa _ (az _) (ai (fun hd => by cases hd) (fun _ => ?_))
 refine bq (r := .bool true) (fun Hf lf hf => vM (h.le lf) (hg.le lf) (by decide) (by rw [lr, if_pos (by rw [kv1]), Fg])) rfl ⟨rfl, trivial⟩ fun H14 l14 f14 => ?_
 have h := h.le l14
 have hG := hG.le l14
 have hg := hg.le l14
 refine aa _ (az _) (ai (fun hd => by cases hd) (fun _ => ?_))
 refine bq (r := .bool true) (fun Hf lf hf => vM (h.le lf) (hg.le lf) (by decide) (by rw [lr, if_pos (by rw [kv1]), Ff])) rfl ⟨rfl, trivial⟩ fun H15 l15 f15 => ?_
 have h := h.le l15
 have hG := hG.le l15
 have hg := hg.le l15
 refine aa _ (az _) (ai (fun hd => by cases hd) (fun _ => ?_))
 refine bq (r := .bool true) (fun Hf lf hf => kX (h.le lf) (hG.le lf) (s := s14) (by decide) (hg.le lf) Fe) rfl ⟨rfl, trivial⟩ fun H16 l16 f16 => ?_
 have h := h.le l16
 have hG := hG.le l16
 have hg := hg.le l16
 refine ai (fun _ => ?_) (fun hd => by cases hd)
 refine bq (r := .bool true) (fun Hf lf hf => kX (h.le lf) (hG.le lf) (s := [49, 56, 32, 87, 101, 108, 108, 10, 52, 32, 106, 111, 108, 116, 10]) (by decide) (m0 _) Fb) rfl ⟨rfl, trivial⟩ fun H17 l17 f17 => ?_
 have h := h.le l17
 have hG := hG.le l17
 have hg := hg.le l17
 refine ai (fun _ => ?_) (fun hd => by cases hd)
 refine bq (r := .bool true) (fun Hf lf hf => kX (h.le lf) (hG.le lf) (s := [49, 56, 32, 87, 101, 108, 108, 10, 50, 32, 87, 101, 108, 108, 10]) (by decide) (m0 _) Fa) rfl ⟨rfl, trivial⟩ fun H18 l18 f18 => ?_
 have h := h.le l18
 have hG := hG.le l18
 have hg := hg.le l18
 refine ai (fun _ => ?_) (fun hd => by cases hd)
 refine bq (r := .bool true) (fun Hf lf hf => kX (h.le lf) (hG.le lf) (s := [48, 52, 32, 74, 111, 108, 116, 10]) (by decide) (m0 _) E9) rfl ⟨rfl, trivial⟩ fun H19 l19 f19 => ?_
 have h := h.le l19
 have hG := hG.le l19
 have hg := hg.le l19
 refine ai (fun _ => ?_) (fun hd => by cases hd)
 refine bq (r := .bool true) (fun Hf lf hf => kX (h.le lf) (hG.le lf) (s := s18) (by decide) (m0 _) E8) rfl ⟨rfl, trivial⟩ fun H20 l20 f20 => ?_
 have h := h.le l20
 have hG := hG.le l20
 have hg := hg.le l20
 refine ai (fun _ => ?_) (fun hd => by cases hd)
 refine bq (r := .bool true) (fun Hf lf hf => kX (h.le lf) (hG.le lf) (s := []) (by decide) (m0 _) E7) rfl ⟨rfl, trivial⟩ fun H21 l21 f21 => ?_
 exact af ⟨rfl, rfl⟩
abbrev DT (r : Value) (_ : Heap) (O' : Go.Sx.Own) : Prop := r = .bool true ∧ O' = []
theorem pv {H : Heap} (hG : GlobOk H) : (Tree.call false 9 [] [] [] .one fun l _ => .ret (g l 0) []).den PP DT H [] :=
 ak (BH hG) rfl ⟨rfl, trivial⟩ fun _ _ => af ⟨rfl, rfl⟩
theorem zp {H0 : Heap} {cv : Value} {cs : List CdF} (hc : CardsF H0 cv cs) (s : List UInt8) (hs : s.length ≤ 1000) : Triple PP dt [cv, Str s] H0 [] fun r H' O' => mH cs s r H' O' ∧ O' = [] := by
 refine (AX hc s hs).ghost ?_
 rintro r H' O' _ _ ⟨sl, e, k⟩
 exact ⟨H', [], fun w F hm => ⟨hm.sub (List.sublist_append_right O' F), Heap.le_refl _⟩, ⟨sl, e, k⟩, rfl⟩
theorem rJ {H : Heap} {cv : Value} {cs : List CdF} (hG : GlobOk H) (hc : CardsF H cv cs) (s : List UInt8) : Triple PP dG [cv, Str s] H [] DT := by
 refine ge (vs := [cv, Str s]) (by kernel_rfl) ⟨hc.one, rfl, trivial⟩ ?_
 simp only [dF]
 refine bh (Do hc) ?_
 rintro _ H1 _ ⟨⟨p, rfl, hp, _⟩ | ⟨p, rfl, hp1⟩, rfl⟩ l1
 ·refine ⟨[p, .bool true], rfl, ⟨hp.1.one, rfl, trivial⟩, ?_⟩
  have hG := hG.le l1
  refine aa _ (az _) ?_
  refine ab ?_
  refine aa _ (cK s) ?_
  refine ab ?_
  refine aa _ (bL _ _) ?_
  refine ab ?_
  refine aa _ (ay _ _) (ai (fun _ => pv hG) (fun hd => ?_))
  have hb : s.length ≤ 1000 := Int.ofNat_le.1 (by simpa using hd)
  refine bh (zp (hc.le l1) s hb) ?_
  rintro _ H2 _ ⟨⟨sl, rfl, hsl⟩, rfl⟩ l2
  refine ⟨[sl, iV (bJ cs s).2.1, iV (bJ cs s).2.2], rfl, ⟨hsl.one, rfl, rfl, trivial⟩, ?_⟩
  refine ak (wb (hp.1.le l2) (hG.le l2) hb hsl _ _) rfl ⟨rfl, trivial⟩ fun H3 l3 => ?_
  exact ai (fun _ => pv ((hG.le l2).le l3)) (fun hd => by simp at hd)
 ·refine ⟨[p, .bool false], rfl, ⟨hp1, rfl, trivial⟩, ?_⟩
  refine aa _ (az _) ?_
  refine ab ?_
  refine aa _ (cK s) ?_
  refine ab ?_
  refine aa _ (bL _ _) ?_
  refine ab ?_
  exact aa _ (ay _ _) (ai (fun _ => pv (hG.le l1)) (fun hd => by simp at hd))
end Go.Proofs.YtamgiojcbdbokaaGreatDoor
namespace Go.Proofs.YtamgiojcbdbokaaGreatDoor
open Go Go.Sx Go.ChangeShapes Go.WideShapes Go.ChangeAt Go.RowKit
set_option maxRecDepth 100000
set_option maxHeartbeats 1000000
theorem own : ownKnob Tryz.prog.godebug = none := by kernel_rfl
theorem Bj : laidOutB Tryz.prog = true := by kernel_rfl
theorem sOk : dA Tryz.prog = true := by kernel_rfl
abbrev EA : Value := .slice none 0 0
abbrev uF : List (String × DataW Unit) := [("math/bits.deBruijn32tab", Rows.laid_math_bits_deBruijn32tab), ("math/bits.deBruijn64tab", Rows.laid_math_bits_deBruijn64tab), ("internal/strconv.uint64pow10", Rows.laid_internal_strconv_uint64pow10), ("unicode/utf8.acceptRanges", Rows.laid_unicode_utf8_acceptRanges), ("strconv.ErrRange", Rows.laid_strconv_ErrRange), ("strconv.ErrSyntax", Rows.laid_strconv_ErrSyntax), ("unicode/utf8.first", Rows.laid_unicode_utf8_first)]
theorem uE {P : Program} {w : World} {n : String} {d : DataW Unit} : ∀ {l : List (String × DataW Unit)} {ps : List MemPlace}, DataW.LaidVars P w l ps → (n, d) ∈ l →
  ∃ g t cs fuel p, P.globalNamed n = some g ∧ (P.globals[g]?).map (·.type) = some t ∧ w.var? P n = some cs ∧ DataW.trod (fun _ => ()) P w 0 (fun _ => true) false fuel t cs.toList = some (d, p)
 | [], _, _, h => by cases h
 | (n', d') :: l, ps, h, hm => by
  obtain ⟨g, t, cs, fuel, p, q, h1, h2, h3, h4, h5, _⟩ := h
  rcases List.mem_cons.1 hm with e | hm
  ·cases e; exact ⟨g, t, cs, fuel, p, h1, h2, h3, h4⟩
  ·exact uE h5 hm
theorem rT {P : Program} {w : World} {fuel : Nat} {t : TypeId} {cs : List Value} {x : DataW Unit × List MemPlace} {m : Array (String × TypeId)} (ht : P.underlying t = some (.interface m)) (h : DataW.trod (fun _ => ()) P w 0 (fun _ => true) false fuel t cs = some x) :
  cs = [.nilIface] ∨ ∃ u v, cs = [.iface u v] := by
 cases fuel with
 | zero => simp [DataW.trod] at h
 | succ fuel =>
  unfold DataW.trod at h
  rw [ht] at h
  split at h <;> simp_all
theorem pW {W w : World} {O : Go.Sx.Own} (hm : Models w (nv W) O) {a : Addr} {v : Value} (h : W.cell? a = some v) : w.cell? a = some v := by
 unfold World.cell? at h ⊢
 cases hb : W.heap[a.block]? with
 | none => rw [hb] at h; cases h
 | some o =>
  have := hm.pers a.block o hb
  rw [this]; rw [hb] at h; exact h
theorem y6 {P : Program} {W w : World} {O : Go.Sx.Own} (hm : Models w (nv W) O) {n : String} {cs : Array Value} (h : W.var? P n = some cs) : w.var? P n = some cs := by
 unfold World.var? at h ⊢
 cases hg : P.globalNamed n with
 | none => rw [hg] at h; cases h
 | some g =>
  rw [hg] at h
  simp only [Option.bind_some] at h ⊢
  cases hb : W.heap[g]? with
  | none => rw [hb] at h; cases h
  | some o =>
   have := hm.pers g o hb
   rw [this]; rw [hb] at h; exact h
theorem vT {W : World} {n : String} {g : Nat} {t : TypeId} {d : DataW Unit} {m : Array (String × TypeId)} (hg : Tryz.prog.globalNamed n = some g) (ht : (Tryz.prog.globals[g]?).map (·.type) = some t) (hu : Tryz.prog.underlying t = some (.interface m)) {ps : List MemPlace} (h : DataW.LaidVars Tryz.prog W uF ps) (hm : (n, d) ∈ uF) :
  ∃ ev, W.cell? ⟨g, 0, none⟩ = some ev ∧ (ev = .nilIface ∨ ∃ te pe, ev = .iface te pe) := by
 obtain ⟨g', t', cs, fuel, p, h1, h2, h3, h4⟩ := uE h hm
 obtain rfl := Option.some.inj (hg.symm.trans h1)
 obtain rfl := Option.some.inj (ht.symm.trans h2)
 have hc := World.var?_cell hg h3 0
 rcases rT hu h4 with e | ⟨u, v, e⟩
 ·have : cs[0]? = some .nilIface := by rw [← Array.getElem?_toList, e]; rfl
  exact ⟨_, hc.trans this, .inl rfl⟩
 ·have : cs[0]? = some (.iface u v) := by rw [← Array.getElem?_toList, e]; rfl
  exact ⟨_, hc.trans this, .inr ⟨u, v, rfl⟩⟩
theorem Bq {W : World} (h : laidMetH Tryz.prog uF W) (hs : W.ShapedOpen Tryz.prog) : GlobOk (nv W) := by
 rw [MakeChecks.laidMetH_plain _ _ _ (by kernel_rfl)] at h
 obtain ⟨ps, hl, _, _⟩ := h
 obtain ⟨g, t, cs, fuel, p, h1, h2, h3, h4⟩ := uE (n := "internal/strconv.uint64pow10") (d := Rows.laid_internal_strconv_uint64pow10) hl (by simp)
 obtain rfl := Option.some.inj ((show Tryz.prog.globalNamed "internal/strconv.uint64pow10" = some 0 by kernel_rfl).symm.trans h1)
 have h4' : cs.toList = Go.Lib.pow10Tab.map fun z => Value.int .u64 z := by
  refine Go.Lib.cells_of_tab (e := 156) (n := 20) ?_ (by kernel_rfl) (by kernel_rfl) ?_ h4
  ·obtain rfl := Option.some.inj ((show (Tryz.prog.globals[0]?).map (·.type) = some 220 by kernel_rfl).symm.trans h2)
   kernel_rfl
  ·obtain rfl := Option.some.inj ((show (Tryz.prog.globals[0]?).map (·.type) = some 220 by kernel_rfl).symm.trans h2)
   kernel_rfl
 have ht : Go.Lib.TabIs Tryz.prog W "internal/strconv.uint64pow10" .u64 Go.Lib.pow10Tab := by
  unfold Go.Lib.TabIs
  rw [h3, ← h4', Array.toArray_toList]
 obtain ⟨m, hmx⟩ := cell_of_shapedOpen_int (g := 1) (t := 3) (zero := #[.int .i64 0]) (k := .i64) hs (Nat.le_of_ble_eq_true (by kernel_rfl)) (by kernel_rfl) rfl (by kernel_rfl) (by kernel_rfl) (by kernel_rfl)
 obtain ⟨e2, a2, b2⟩ := vT (n := "strconv.ErrSyntax") (g := 2) (t := 96) (d := Rows.laid_strconv_ErrSyntax) (by kernel_rfl) (by kernel_rfl) Tryz.underlying96 hl (by simp)
 obtain ⟨e3, a3, b3⟩ := vT (n := "strconv.ErrRange") (g := 3) (t := 96) (d := Rows.laid_strconv_ErrRange) (by kernel_rfl) (by kernel_rfl) Tryz.underlying96 hl (by simp)
 intro w O hm
 exact ⟨y6 hm ht, ⟨m, pW hm hmx⟩, ⟨e2, pW hm a2, b2⟩, ⟨e3, pW hm a3, b3⟩⟩
end Go.Proofs.YtamgiojcbdbokaaGreatDoor
