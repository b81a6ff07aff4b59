/- pool.New, pool.Find; the reference's Find. -/
import Derived.Test.YtamgiojcbdbokaaGreatDoorM
namespace Go.Proofs.YtamgiojcbdbokaaGreatDoor
open Go Go.Sx
set_option maxRecDepth 100000
set_option maxHeartbeats 1000000
theorem Db {r : List Value} (h : r.length = 14) : (.agg #[g r 0, g r 1, g r 2, g r 3, g r 4, g r 5, g r 6, g r 7, g r 8, g r 9, g r 10, g r 11, g r 12, g r 13] : Value) = .agg r.toArray := by
 match r, h with
 | [_, _, _, _, _, _, _, _, _, _, _, _, _, _], _ => rfl
theorem g14 {r : List Value} (h : r.length = 14) : G14 r 0 = r := by
 match r, h with
 | [_, _, _, _, _, _, _, _, _, _, _, _, _, _], _ => rfl
def fM (cs : List CdF) (k : List UInt8) : Option Nat := cs.findIdx? fun c => k == c.nm
theorem tj (k : List UInt8) : ∀ (cs : List CdF) (o : Nat), gh ((cs.zipIdx o).map fun p => (p.1.nm, iV (p.2 : Nat))) k = (fM cs k).map fun j => iV ((o + j : Nat) : Int)
 | [], o => rfl
 | c :: cs, o => by
  rw [List.zipIdx_cons, List.map_cons, fM, List.findIdx?_cons]
  by_cases h : k = c.nm
  ·simp [gh, h]
  ·have hb : (k == c.nm) = false := by simpa using h
   have ih := tj k cs (o + 1)
   rw [hb]
   simp only [gh, List.find?_cons, hb] at ih ⊢
   rw [ih, fM]
   cases cs.findIdx? fun c => k == c.nm with
   | none => rfl
   | some j => simp only [Option.map_some, Bool.false_eq_true, if_false]; congr 2; omega
theorem pn (cs : List CdF) (k : List UInt8) : gh (gQ cs) k = (fM cs k).map fun j : Nat => iV (j : Int) := by
 rw [gQ, tj k cs 0]
 congr 1
 funext j
 rw [Nat.zero_add]
theorem wT (c : CdF) (cs : List CdF) (k : List UInt8) : fM (c :: cs) k = if (k == c.nm) = true then some 0 else (fM cs k).map (· + 1) := by rw [fM, List.findIdx?_cons]; rfl
theorem wS {cs : List CdF} {k : List UInt8} : fM cs k = none ↔ k ∉ cs.map (·.nm) := by
 rw [fM, List.findIdx?_eq_none_iff]
 simp only [List.mem_map, not_exists, not_and, beq_eq_false_iff_ne]
 exact ⟨fun h c hc e => h c hc e.symm, fun h c hc e => h c hc e.symm⟩
theorem wR {cs : List CdF} {k : List UInt8} {j : Nat} (h : fM cs k = some j) : ∃ hj : j < cs.length, cs[j].nm = k := by
 rw [fM, List.findIdx?_eq_some_iff_getElem] at h
 obtain ⟨h1, h2, _⟩ := h
 exact ⟨h1, (by simpa using h2 : k = cs[j].nm).symm⟩
theorem wI {cs : List CdF} {i : Nat} (h : i < cs.length) : gQ (cs.take (i + 1)) = gQ (cs.take i) ++ [(cs[i].nm, iV (i : Nat))] := by
 have hm : (cs.take i).length = i := by rw [List.length_take]; omega
 rw [gQ, gQ, List.take_add_one, List.getElem?_eq_getElem h, Option.toList_some, List.zipIdx_append, List.map_append, hm]
 simp
theorem BJ : PP.underlying 103 = some (.map ub dR) := by kernel_rfl
theorem EP : PP.underlying ub = some .string := by kernel_rfl
theorem Dq : ∀ w, (zeroValue dR).run PP w = .ok (iV 0) w := by
 intro w
 have : (PP.info? dR).bind (·.zero) = some (iV 0) := by kernel_rfl
 simp only [Option.bind_eq_some_iff] at this
 obtain ⟨i, hi, hz⟩ := this
 simp [zeroValue, typeInfo, hi, hz]
def FU (cs : List CdF) (V : Nat → Bool → Prop) (r : Value) (H' : Heap) (O' : Go.Sx.Own) : Prop :=
 (∃ r1 T x mv rows Om Ox, r = .tuple #[.pointer (some ⟨r1, 0, none⟩), iV 0] ∧ H' r1 = some (.cells #[x, mv] T (0, 0)) ∧ OMapS mv (gQ cs) Om ∧ OSl lN 14 x rows Ox ∧ RowsF H' rows cs ∧ (cs.map (·.nm)).Nodup ∧ O'.Perm (Om ++ Ox) ∧ ∀ j, j < cs.length → V j true) ∨
 (∃ e, r = .tuple #[.pointer none, iV e] ∧ e ≠ 0 ∧ (400 < cs.length ∨ (∃ i, i < cs.length ∧ V i false) ∨ ¬ (cs.map (·.nm)).Nodup))
def FV (cs : List CdF) (V : Nat → Bool → Prop) (r : Value) (H' : Heap) (O' : Go.Sx.Own) : Prop :=
 ((∃ p, r = .tuple #[p, iV 0] ∧ PoolF H' p cs ∧ ∀ j, j < cs.length → V j true) ∨ (∃ e, r = .tuple #[.pointer none, iV e] ∧ e ≠ 0 ∧ (400 < cs.length ∨ (∃ i, i < cs.length ∧ V i false) ∨ ¬ (cs.map (·.nm)).Nodup))) ∧ O' = []
def zg (H : Heap) (cs : List CdF) (V : Nat → Bool → Prop) : Prop := ∀ (i : Nat) (hi : i < cs.length) (H' : Heap) (r : List Value), Heap.le H H' → r.length = 14 → CdRF H' r cs[i] → Triple PP kE [.agg r.toArray] H' [] fun x _ O' => (∃ b, x = .bool b ∧ V i b) ∧ O' = []
theorem xN {H H' : Heap} {rows : List (List Value)} {cs : List CdF} {i : Nat} (h : RowsF H rows (cs.take i)) (hl : Heap.le H H') (hi : i < cs.length) {r : List Value} (hr : CdRF H' r cs[i]) : RowsF H' (rows ++ [r]) (cs.take (i + 1)) := by
 have hm : (cs.take i).length = i := by rw [List.length_take]; omega
 have hrl : rows.length = i := h.1.trans hm
 have hm2 : (cs.take (i + 1)).length = i + 1 := by rw [List.length_take]; omega
 refine ⟨by rw [List.length_append, hrl, hm2]; rfl, fun j q c a b => ?_⟩
 have hj : j < i + 1 := by have := (List.getElem?_eq_some_iff.1 b).1; omega
 rw [List.getElem?_take_of_lt hj] at b
 by_cases hji : j < i
 ·rw [List.getElem?_append_left (by omega)] at a
  exact (h.2 j q c a (by rw [List.getElem?_take_of_lt hji]; exact b)).le hl
 ·obtain rfl : j = i := by omega
  rw [List.getElem?_append_right (by omega), hrl, Nat.sub_self] at a
  simp only [List.getElem?_cons_zero, Option.some.injEq] at a
  rw [List.getElem?_eq_getElem hi] at b
  rw [← Option.some.inj b, ← a]; exact hr
theorem DX {H : Heap} {cv : Value} {cs : List CdF} (h : CardsF H cv cs) (hlit : ∀ c ∈ cs, zW c) {V : Nat → Bool → Prop} (hval : zg H cs V) : Triple PP iO [cv] H [] (FU cs V) := by
 refine sR (vs := [cv]) (by kernel_rfl) ⟨h.one, trivial⟩ ?_
 simp only [re]
 have clen := h.len
 refine aa _ clen ?_
 refine aa _ (cH _ _) (ai (fun hc => ?_) (fun hc => ?_))
 ·exact af (.inr ⟨5, rfl, by omega, .inl (by have := of_decide_eq_true hc; omega)⟩)
 have h400 : cs.length ≤ 400 := by have := of_decide_eq_false hc; omega
 refine aa _ clen ?_
 refine aL cs.length (fun i H' O' => O' = [] ∧ Heap.le H H' ∧ ∀ j, j < i → V j true) ⟨rfl, Heap.le_refl _, fun j hj => by omega⟩ ?_
 rintro i H1 O1 hi - ⟨rfl, l1, hV⟩
 refine aa _ (aF _ _) (ai (fun hlt => ?_) (fun hfin => ?_))
 ·have hlt : i < cs.length := by have := of_decide_eq_true hlt; omega
  obtain ⟨a, row, k1, k2, _, k4, k5, k6⟩ := lM [] (h.le l1) hlt
  refine aa _ k1 (ao k2 k4 k5 (aj fun r0 => ?_))
  refine ae (ae ?_)
  rw [show (ag (G14 row 0) : Value) = .agg row.toArray from Db k4]
  refine bn (hval i hlt H1 row l1 k4 k6) ?_
  rintro _ H2 _ ⟨⟨b, rfl, hb⟩, rfl⟩ l2
  refine ⟨[.bool b], rfl, ⟨rfl, trivial⟩, ?_⟩
  refine aa _ (av _) (ai (fun hd => ?_) (fun hd => ?_))
  ·exact af (.inr ⟨2, rfl, by omega, .inr (.inl ⟨i, hlt, by rw [DD hd] at hb; exact hb⟩)⟩)
  ·refine aa _ (aD (by omega)) (az (by simp [Eqs, E]) hlt ⟨rfl, Heap.le_trans l1 l2, fun j hj => ?_⟩)
   rcases Nat.lt_succ_iff_lt_or_eq.1 hj with hj | rfl
   ·exact hV j hj
   ·rw [Dm hd] at hb; exact hb
 have hV : ∀ j, j < cs.length → V j true := fun j hj => hV j (by have := of_decide_eq_false hfin; omega)
 refine w8 fun mv Om hm => ?_
 rw [List.append_nil]
 refine aj fun r1 => ?_
 refine aa _ clen ?_
 refine gR (fun vs H' O' => ∃ (i : Nat) (x : Value) (rows : List (List Value)) (Om Ox : Go.Sx.Own), vs = [iV i, x] ∧ i ≤ cs.length ∧ Heap.le H H' ∧ OMapS mv (gQ (cs.take i)) Om ∧ OSl lN 14 x rows Ox ∧ RowsF H' rows (cs.take i) ∧ ((cs.take i).map (·.nm)).Nodup ∧ O'.Perm (Om ++ Ox)) (fun vs _ _ => match g vs 0 with | .int _ k => cs.length + 1 - k.toNat | _ => 0)
  ⟨0, .slice none 0 0, [], Om, [], rfl, Nat.zero_le _, l1, hm, OSl.nil _ _, ⟨rfl, fun i r c a => by simp at a⟩, List.nodup_nil, by simp⟩ ?_
 rintro _ H2 O2 _ _ _ ⟨i, x, rows, Om, Ox, rfl, hi, hle, hm, hx, hrows, hnd, hp⟩
 refine aa _ (aF _ _) (ai (fun hlt => ?_) (fun hge => ?_))
 ·have hlt : i < cs.length := by have := of_decide_eq_true hlt; omega
  obtain ⟨a, row, k1, k2, _, k4, k5, k6⟩ := lM O2 (h.le hle) hlt
  have hnm : g row 0 = Str cs[i].nm := k6.nm.1
  have hmm : ∀ p ∈ Om, p ∈ O2 := fun p hp' => hp.mem_iff.2 (List.mem_append_left _ hp')
  refine aa _ k1 (ao k2 k4 k5 (aj fun r2 => ?_))
  refine ae (ae (ae ?_))
  rw [hnm]
  have hlook := pn (cs.take i) cs[i].nm
  refine tR BJ EP Dq hm hmm cs[i].nm (by rw [hlook]; cases fM (cs.take i) cs[i].nm <;> rfl) ?_
  refine ai (fun hd => ?_) (fun hd => ?_)
  ·refine af (.inr ⟨11, rfl, by omega, .inr (.inr fun hn => ?_)⟩)
   have hd : (gh (gQ (cs.take i)) cs[i].nm).isSome = true := hd
   rw [hlook] at hd
   cases hf : fM (cs.take i) cs[i].nm with
   | none => rw [hf] at hd; cases hd
   | some j =>
    obtain ⟨hj, hjn⟩ := wR hf
    have hjl : j < i := by rw [List.length_take] at hj; omega
    rw [List.getElem_take] at hjn
    refine (List.pairwise_iff_getElem.1 hn) j i (by rw [List.length_map]; omega) (by rw [List.length_map]; exact hlt) hjl ?_
    rw [List.getElem_map, List.getElem_map]; exact hjn
  have hd : (gh (gQ (cs.take i)) cs[i].nm).isSome = false := hd
  have hnone : gh (gQ (cs.take i)) cs[i].nm = none := by simpa using hd
  have hnot : cs[i].nm ∉ (cs.take i).map (·.nm) := by
   rw [hlook, Option.map_eq_none_iff] at hnone
   exact wS.1 hnone
  refine ae (ae ?_)
  refine tO BJ EP hm hp cs[i].nm (iV i) hnone fun rr Om' hm' _ => ?_
  rw [← wI hlt] at hm'
  refine ae (ae ?_)
  rw [show (ag (G14 row 0) : Value) = .agg row.toArray from Db k4]
  refine bn (A6 k6 (hlit _ (List.getElem_mem hlt))) ?_
  rintro _ H3 _ ⟨⟨cells, rfl, c1, c2⟩, rfl⟩ l3
  rw [List.nil_append]
  refine ⟨cells, by simp [Shp.open, c1], c2.ones, aj fun r3 => ?_⟩
  have hrl : rows.length = i := by have := hrows.1; rw [List.length_take] at this; omega
  rw [g14 c1]
  refine cB (rows := rows) (news := [cells]) (O1 := Ox) (O2 := Om') (e := lN) (size := 14) (bytes := 152) (by kernel_rfl) List.perm_append_comm hx (fun Hf _ hf => Sl.block1 (hf _ List.mem_cons_self) c1 c2.ones) (by rw [hrl, List.length_singleton]; omega) (by rw [hrl, List.length_singleton]; omega) ?_
  intro v' A' H6 l6 hA'
  refine ae ?_
  refine aa _ (aD (by omega)) (eL (by simp [Eqs, E]) ⟨i + 1, v', rows ++ [cells], Om', A', rfl, hlt, Heap.le_trans hle (Heap.le_trans l3 l6), hm', hA', xN hrows (Heap.le_trans l3 l6) hlt (c2.le l6), ?_, List.perm_append_comm⟩ ?_)
  ·rw [List.take_add_one, List.getElem?_eq_getElem hlt, Option.toList_some, List.map_append, List.nodup_append]
   refine ⟨hnd, by simp, fun y hy z hz e => ?_⟩
   obtain rfl : z = cs[i].nm := by simpa using hz
   exact hnot (e ▸ hy)
  ·show cs.length + 1 - ((i + 1 : Nat) : Int).toNat < cs.length + 1 - (i : Int).toNat
   omega
 ·have hge : cs.length ≤ i := by have := of_decide_eq_false hge; omega
  rw [List.take_of_length_le hge] at hm hrows hnd
  refine xP fun H' l hf => .inl ⟨r1, _, x, mv, rows, Om, Ox, rfl, hf _ List.mem_cons_self, hm, hx, hrows.le l, hnd, hp, hV⟩
theorem E2 {H : Heap} {cv : Value} {cs : List CdF} (h : CardsF H cv cs) (hlit : ∀ c ∈ cs, zW c) {V : Nat → Bool → Prop} (hval : zg H cs V) : Triple PP iO [cv] H [] (FV cs V) := by
 refine Triple.ghost (DX h hlit hval) ?_
 rintro r H' O' _ hc (⟨r1, T, x, mv, rows, Om, Ox, rfl, h1, hm, hx, hrows, hnd, hp, hV⟩ | ⟨e, rfl, he, hw⟩)
 ·have hc := hc.perm hp
  obtain ⟨H1, g1, k1, l1⟩ := hm.freeze hc
  have hc := hc.ghost g1
  obtain ⟨H2, g2, k2, l2⟩ := hx.freeze (X := []) (by simpa using hc)
  exact ⟨H2, [], (Ghost.perm hp).trans (g1.trans (by simpa using g2)), .inl ⟨_, rfl, ⟨r1, x, mv, T, rfl, l2.1 _ _ (l1.1 _ _ h1), ⟨rows, k2, hrows.le (Heap.le_trans l1 l2)⟩, k1.le l2, hnd, hlit⟩, hV⟩, rfl⟩
 ·exact ⟨H', [], Ghost.drop _ _, .inr ⟨e, rfl, he, hw⟩, rfl⟩
def mZ (cs : List CdF) (k : List UInt8) : Int × Int := match fM cs k with | some j => ((j : Int), 0) | none => (0, 9)
theorem Ec {H : Heap} {p : Value} {cs : List CdF} (h : PoolF H p cs) (k : List UInt8) (O : Go.Sx.Own) : RetO PP jD [p, Str k] H O (Dl (mZ cs k)) := by
 refine lX (vs := [p, Str k]) (by kernel_rfl) ⟨h.one, rfl, trivial⟩ ?_
 simp only [jy]
 refine ak (AZ h) rfl ⟨rfl, trivial⟩ fun H1 l1 => ai (fun hd => by cases hd) (fun _ => ?_)
 obtain ⟨r, cv, mv, T, rfl, h1, h2, h3, h4, h5⟩ := h.le l1
 obtain ⟨_, q2⟩ := mU O h1
 have hlook := pn cs k
 refine au rfl (au rfl ?_)
 refine ao q2 rfl ⟨h3.one, trivial⟩ ?_
 refine tU BJ EP Dq h3 k (by rw [hlook]; cases fM cs k <;> rfl) ?_
 refine aa _ (av _) (ai (fun hd => ?_) (fun hd => ?_))
 ·have hd : (gh (gQ cs) k).isSome = false := DD hd
  rw [hlook] at hd
  have hn : fM cs k = none := by simpa using hd
  exact af ⟨by rw [mZ, hn]; rfl, rfl⟩
 ·have hd : (gh (gQ cs) k).isSome = true := Dm hd
  rw [hlook] at hd ⊢
  cases hf : fM cs k with
  | none => rw [hf] at hd; cases hd
  | some j =>
   exact af ⟨by rw [mZ, hf]; rfl, rfl⟩
def yL (cs : List CdF) (k : List UInt8) : Value := match fM cs k with | some j => .tuple #[iV (j : Int), .bool true] | none => .tuple #[iV 0, .bool false]
theorem Dx {H : Heap} {cv : Value} {cs : List CdF} (h : CardsF H cv cs) (k : List UInt8) (O : Go.Sx.Own) : RetO PP gz [cv, Str k] H O (yL cs k) := by
 refine jZ (vs := [cv, Str k]) (by kernel_rfl) ⟨h.one, rfl, trivial⟩ ?_
 simp only [gu]
 have clen := h.len
 have hcB := h.lenB
 refine aL cs.length (fun i H' O' => O' = O ∧ Heap.le H H' ∧ fM cs k = (fM (cs.drop i) k).map (· + i)) ⟨rfl, Heap.le_refl _, by simp⟩ ?_
 rintro i H1 O1 hi - ⟨rfl, l1, hg⟩
 refine aa _ clen ?_
 refine aa _ (aF _ _) (ai (fun hlt => ?_) (fun hge => ?_))
 ·have hlt : i < cs.length := by have := of_decide_eq_true hlt; omega
  obtain ⟨a, row, k1, k2, k3, k4, k5, k6⟩ := lM O1 (h.le l1) hlt
  have hnm := k6.nm.1
  have q0 : Reads H1 O1 (.pointer (some a)) 1 [Str cs[i].nm] := by
   have := k3 0 1 (by omega)
   rw [Dy] at this
   obtain ⟨es, ts, rfl, _⟩ := k6
   exact this
  rw [List.drop_eq_getElem_cons hlt, wT] at hg
  refine aa _ k1 ?_
  refine au rfl ?_
  refine ao q0 rfl ⟨rfl, trivial⟩ ?_
  refine aa _ (uk _ _) (ai (fun hd => ?_) (fun hd => ?_))
  ·have hd : (cs[i].nm == k) = true := hd
   rw [if_pos (show (k == cs[i].nm) = true from by simpa using (beq_iff_eq.1 hd).symm), Option.map_some, Nat.zero_add] at hg
   exact af ⟨by rw [yL, hg]; rfl, rfl⟩
  ·have hd : (cs[i].nm == k) = false := hd
   rw [if_neg (show ¬ (k == cs[i].nm) = true from by rw [beq_eq_false_iff_ne] at hd; rw [beq_iff_eq]; exact fun e => hd e.symm)] at hg
   refine aa _ (aD (by omega)) (az (by simp [Eqs, E]) hlt ⟨rfl, l1, ?_⟩)
   rw [hg]
   cases fM (cs.drop (i + 1)) k with
   | none => rfl
   | some j => simp only [Option.map_some]; congr 1; omega
 ·have hge : cs.length ≤ i := by have := of_decide_eq_false hge; omega
  rw [List.drop_of_length_le hge] at hg
  exact af ⟨by rw [yL, hg]; rfl, rfl⟩
abbrev I (n : Int) : Value := .int .i64 n
theorem BD (x y : Int) : ah .min2 [iV x, iV y] = some (iV (min x y)) := by
 simp only [ah]; congr 2; omega
theorem BH (x y : Int) : ah .max2 [iV x, iV y] = some (iV (max x y)) := by
 simp only [ah]; congr 2; omega
def ED (l : List Int) (e : Eff) : Bool := ((l.contains e.target && e.n == 0) && e.m == 0) && e.colour == 0
def inR (n lo hi : Int) : Bool := decide (n ≥ lo) && max 0 (min n hi) == n
def DL (l : List Int) (most : Int) (e : Eff) : Bool := inR e.n 1 most && ED l { e with n := 0 }
def DK (l : List Int) (zY : Int) (e : Eff) : Bool := ((inR e.n 0 9 && inR e.m zY 9) && decide (e.n + e.m > 0)) && ED l { e with n := 0, m := 0 }
def EC (l : List Int) (most : Int) (e : Eff) : Bool := inR e.colour 0 3 && DL l most { e with colour := 0 }
inductive Rl where
 | no
 | bare (l : List Int)
 | cnt (l : List Int) (m : Int)
 | par (l : List Int) (m : Int)
 | col (l : List Int) (m : Int)
def nr (c : Int) : Rl :=
 if c = 1 then .cnt [1, 2, 3, 4, 5] 99 else if c = 2 then .cnt [0, 4] 7 else if c = 3 ∨ c = 4 then .cnt [0, 4] 99
 else if c = 5 ∨ c = 6 ∨ c = 11 then .bare [1, 2, 3] else if c = 7 then .bare [6] else if c = 8 then .par [1, 2, 3, 0] 0
 else if c = 9 then .cnt [1, 2, 3, 0] 9 else if c = 10 then .par [0] 1 else if c = 12 then .col [0] 9 else .no
def Rl.fits : Rl → Eff → Bool
 | .no, _ => false
 | .bare l, e => ED l e
 | .cnt l m, e => DL l m e
 | .par l m, e => DK l m e
 | .col l m, e => EC l m e
def EF (e : Eff) : Bool := (nr e.code).fits e
def Aa : List Int → Int → Int → Int
 | [], _, _ => -1
 | a :: r, x, i => if x == a then i else Aa r x (i + 1)
theorem yA : ∀ (l : List Int) (x i : Int), 0 ≤ i → (decide (0 ≤ Aa l x i) = l.contains x)
 | [], x, i, _ => by simp [Aa]
 | a :: r, x, i, h => by
  simp only [Aa, List.contains_cons]
  by_cases hx : x = a
  ·simp [hx, h]
  ·simp only [beq_iff_eq, hx, if_false]
   rw [yA r x (i + 1) (by omega)]
   simp [hx]
theorem ff {P : Program} {t ty e : TypeId} {size : Nat} (ha : wj P t e size = true) {ad : Addr} {rows news : List (List Value)} {x : Value} {H : Heap} {O : Go.Sx.Own} {frz : List BV} {K : List Value → List (List Value) → Heap → Go.Sx.Own → Prop}
  (hr : Sl H size (.slice (some ad) rows.length rows.length) rows) (hx : ∀ Hf, Heap.le H Hf → (∀ b ∈ frz, Hf b.r = some b.obj.2) → Sl Hf size x news)
  (hb : (rows.length + news.length) * jq P e ≤ 140737488355328) (h63 : rows.length + news.length < 2 ^ 63) (hk : ∀ v' H', Heap.le H H' → Sl H' size v' (rows ++ news) → K [v'] [] H' O) :
  cg (fun H1 O1 R => bp P ((PrimOp.bi .append #[t, t] ty).sem [.slice (some ad) rows.length rows.length, x]) H1 O1 R) false frz [] .one K H O := by
 intro hc
 have hf := dP hc
 have hl := Heap.le_insAll frz H
 refine ⟨H.insAll frz, [], O, _, Ghost.refl _ _, by simpa using xk (ty := ty) ha (hr.le hl) (hx _ hl hf) hb h63, ?_⟩
 rintro v' H' O' ⟨rfl, hle, hs⟩ _
 exact ⟨[v'], [], [], rfl, ⟨hs.one, trivial⟩, trivial, rfl, hk v' H' (Heap.le_trans hl hle) hs⟩
theorem fX {P : Program} {t : TypeId} {d : TypeDesc} (hu : P.underlying t = some d) (hni : ∀ m, d ≠ .interface m) {b : Bool} {args : List Value} {x : Value} (hx : (b = true ∧ x = .agg args.toArray) ∨ (b = false ∧ args = [x])) {frz : List BV} {H : Heap} {O : Go.Sx.Own}
  {K : List Value → List (List Value) → Heap → Go.Sx.Own → Prop} (hk : ∀ H', Heap.le H H' → (∀ b ∈ frz, H' b.r = some b.obj.2) → K [.iface t x] [] H' O) :
  cg (fun H1 O1 R => bp P ((PrimOp.mkIface t b).sem args) H1 O1 R) false frz [] .one K H O := by
 intro hc
 have hf := dP hc
 have hl := Heap.le_insAll frz H
 have hrun : ∀ w, ((PrimOp.mkIface t b).sem args).run P w = .ok (.value (.iface t x)) w := fun w => by
  rcases hx with ⟨rfl, rfl⟩ | ⟨rfl, rfl⟩
  ·simp only [PrimOp.sem, Instr.makeInterface, Sem.run_bind, al hu, Result.andThen_ok]
   cases d <;> first | rfl | exact absurd rfl (hni _)
  ·simp only [PrimOp.sem, Instr.makeInterface, Sem.run_bind, al hu, Result.andThen_ok]
   cases d <;> first | rfl | exact absurd rfl (hni _)
 refine ⟨H.insAll frz, [], O, fun v H' O' => v = .iface t x ∧ H' = H.insAll frz ∧ O' = [], Ghost.refl _ _, fun w F hm => ⟨_, w, H.insAll frz, [], hrun w, ⟨rfl, rfl, rfl⟩, Heap.le_refl _, by simpa using hm⟩, ?_⟩
 rintro v' H' O' ⟨rfl, rfl, rfl⟩ _
 exact ⟨[_], [], [], rfl, ⟨rfl, trivial⟩, trivial, rfl, hk _ hl hf⟩
theorem u6 (r : Nat) (H : Heap) : Ret PP bj [.slice (some ⟨r, 0, none⟩) 3 3] H (.slice (some ⟨r, 0, none⟩) 3 3) := by
 refine cF (vs := [.slice (some ⟨r, 0, none⟩) 3 3]) (by kernel_rfl) ⟨rfl, trivial⟩ ?_
 simp only [bf]
 exact aa (iV 3) rfl (aa (iV 3) rfl (aa (.slice (some ⟨r, 0, none⟩) 3 3) rfl (af ⟨rfl, rfl⟩)))
def Eu (H : Heap) : Rl → Value → Prop
 | .no, r => r = .nilIface
 | .bare l, r => ∃ s, r = .iface 228 s ∧ Sl H 1 s (aO l)
 | .cnt l m, r => ∃ s, r = .iface 231 (.agg #[s, iV m]) ∧ Sl H 1 s (aO l)
 | .par l m, r => ∃ s, r = .iface 233 (.agg #[s, iV m]) ∧ Sl H 1 s (aO l)
 | .col l m, r => ∃ s, r = .iface 235 (.agg #[s, iV m]) ∧ Sl H 1 s (aO l)
def OfQ (c : Int) (r : Value) (H' : Heap) (O' : Go.Sx.Own) : Prop := Eu H' (nr c) r ∧ O' = []
theorem EG {H : Heap} {r : Nat} {T : TypeId} (h : H r = some (.cells [iV 1, iV 2, iV 3].toArray T (0, 0))) : Sl H 1 (.slice (some ⟨r, 0, none⟩) 3 3) (aO [1, 2, 3]) := Sl.block h ⟨rfl, rfl, rfl, trivial⟩ rfl (by decide)
theorem E4 {H : Heap} {r : Nat} {T : TypeId} {a b : Int} (h : H r = some (.cells [iV a, iV b].toArray T (0, 0))) : Sl H 1 (.slice (some ⟨r, 0, none⟩) 2 2) (aO [a, b]) := Sl.block h ⟨rfl, rfl, trivial⟩ rfl (by decide)
theorem Em {H : Heap} {r : Nat} {T : TypeId} {a : Int} (h : H r = some (.cells [iV a].toArray T (0, 0))) : Sl H 1 (.slice (some ⟨r, 0, none⟩) 1 1) (aO [a]) := Sl.block h ⟨rfl, trivial⟩ rfl (by decide)
def zR : Option TypeDesc → Bool
 | none => false
 | some (.interface _) => false
 | some _ => true
theorem fL {o : Option TypeDesc} (h : zR o = true) : ∃ d, o = some d ∧ ∀ m, d ≠ .interface m := by
 cases o with
 | none => cases h
 | some d => exact ⟨d, rfl, fun m e => by rw [e] at h; cases h⟩
theorem E5 : ∃ d, PP.underlying 228 = some d ∧ ∀ m, d ≠ .interface m := fL (by kernel_rfl)
theorem Fg : ∃ d, PP.underlying 231 = some d ∧ ∀ m, d ≠ .interface m := fL (by kernel_rfl)
theorem Ft : ∃ d, PP.underlying 233 = some d ∧ ∀ m, d ≠ .interface m := fL (by kernel_rfl)
theorem FQ : ∃ d, PP.underlying 235 = some d ∧ ∀ m, d ≠ .interface m := fL (by kernel_rfl)
theorem ET {c : Int} {k : Bool} {r2 r0 : Nat} {H : Heap} (h1 : k = true → c = 5 ∨ c = 6 ∨ c = 11) (h2 : k = false → ¬ (c = 1 ∨ c = 2 ∨ c = 3 ∨ c = 4 ∨ c = 5 ∨ c = 6 ∨ c = 11)) : (ei (.bool k) r2 [iV c] r0).den PP (OfQ c) H [] := by
 simp only [ei]
 obtain ⟨d1, u1, n1⟩ := E5
 obtain ⟨d3, u3, n3⟩ := Ft
 obtain ⟨d4, u4, n4⟩ := FQ
 refine ai (fun hk => ?_) (fun hk => ?_)
 ·refine fX u1 n1 (.inr ⟨rfl, rfl⟩) fun H1 l1 hf => ?_
  refine af ⟨?_, rfl⟩
  rw [nr, if_neg (by have := h1 hk; omega), if_neg (by have := h1 hk; omega), if_neg (by have := h1 hk; omega), if_pos (h1 hk)]
  exact ⟨_, rfl, EG (hf _ List.mem_cons_self)⟩
 have hn := h2 hk
 refine aa _ (an _ _) (ai (fun h => ?_) (fun h => ?_))
 ·have h : c = 7 := by simpa using h
  subst h
  refine aj fun r4 => ?_
  refine fX u1 n1 (.inr ⟨rfl, rfl⟩) fun H1 l1 hf => ?_
  exact af ⟨⟨_, rfl, Em (hf _ List.mem_cons_self)⟩, rfl⟩
 have n7 : c ≠ 7 := by simpa using h
 refine aa _ (an _ _) (ai (fun h => ?_) (fun h => ?_))
 ·have h : c = 8 := by simpa using h
  subst h
  refine pV _ (fun Hf _ _ => u6 r2 Hf) rfl ⟨rfl, trivial⟩ fun H1 l1 hf => ?_
  refine aj fun r5 => ?_
  refine ff (ad := ⟨r2, 0, none⟩) (rows := aO [1, 2, 3]) (news := aO [0]) (size := 1) (e := 108) (by kernel_rfl) (EG (hf _ List.mem_cons_self)) (fun Hf _ hf2 => Em (hf2 _ List.mem_cons_self)) (by rw [show jq PP 108 = 8 by kernel_rfl]; decide) (by decide) fun v' H2 l2 hs => ?_
  exact af ⟨⟨_, rfl, hs⟩, rfl⟩
 have n8 : c ≠ 8 := by simpa using h
 refine aa _ (an _ _) (ai (fun h => ?_) (fun h => ?_))
 ·have h : c = 9 := by simpa using h
  subst h
  refine pV _ (fun Hf _ _ => u6 r2 Hf) rfl ⟨rfl, trivial⟩ fun H1 l1 hf => ?_
  refine aj fun r5 => ?_
  refine ff (ad := ⟨r2, 0, none⟩) (rows := aO [1, 2, 3]) (news := aO [0]) (size := 1) (e := 108) (by kernel_rfl) (EG (hf _ List.mem_cons_self)) (fun Hf _ hf2 => Em (hf2 _ List.mem_cons_self)) (by rw [show jq PP 108 = 8 by kernel_rfl]; decide) (by decide) fun v' H2 l2 hs => ?_
  exact af ⟨⟨_, rfl, hs⟩, rfl⟩
 have n9 : c ≠ 9 := by simpa using h
 refine aa _ (an _ _) (ai (fun h => ?_) (fun h => ?_))
 ·have h : c = 10 := by simpa using h
  subst h
  refine fX u3 n3 (.inl ⟨rfl, rfl⟩) fun H1 l1 hf => ?_
  exact af ⟨⟨_, rfl, Em (hf _ List.mem_cons_self)⟩, rfl⟩
 have n10 : c ≠ 10 := by simpa using h
 refine aa _ (an _ _) (ai (fun h => ?_) (fun h => ?_))
 ·have h : c = 12 := by simpa using h
  subst h
  refine fX u4 n4 (.inl ⟨rfl, rfl⟩) fun H1 l1 hf => ?_
  exact af ⟨⟨_, rfl, Em (hf _ List.mem_cons_self)⟩, rfl⟩
 have n12 : c ≠ 12 := by simpa using h
 refine af ⟨?_, rfl⟩
 rw [nr, if_neg (by omega), if_neg (by omega), if_neg (by omega), if_neg (by omega), if_neg n7, if_neg n8, if_neg n9, if_neg n10, if_neg n12]
 rfl
theorem Ff {c : Int} {k : Bool} {r1 r2 r0 : Nat} {H : Heap} (h1 : k = true → c = 3 ∨ c = 4) (h2 : k = false → ¬ (c = 1 ∨ c = 2 ∨ c = 3 ∨ c = 4)) : (fR (.bool k) r1 [iV c] r2 r0).den PP (OfQ c) H [] := by
 simp only [fR]
 obtain ⟨d2, u2, n2⟩ := Fg
 refine ai (fun hk => ?_) (fun hk => ?_)
 ·refine fX u2 n2 (.inl ⟨rfl, rfl⟩) fun H1 l1 hf => ?_
  refine af ⟨?_, rfl⟩
  rw [nr, if_neg (by have := h1 hk; omega), if_neg (by have := h1 hk; omega), if_pos (h1 hk)]
  exact ⟨_, rfl, E4 (hf _ List.mem_cons_self)⟩
 have hn := h2 hk
 refine aa _ (an _ _) (ai (fun h => ?_) (fun h => ?_))
 ·have h' : c = 5 := by simpa using h
  exact ET (fun _ => .inl h') (fun e => by rw [h] at e; cases e)
 have n5 : c ≠ 5 := by simpa using h
 refine aa _ (an _ _) (ai (fun h => ?_) (fun h => ?_))
 ·have h' : c = 6 := by simpa using h
  exact ET (fun _ => .inr (.inl h')) (fun e => by rw [h] at e; cases e)
 have n6 : c ≠ 6 := by simpa using h
 refine aa _ (an _ _) ?_
 exact ET (fun e => .inr (.inr (by simpa using e))) (fun e => by have : c ≠ 11 := (by simpa using e); omega)
theorem FR (c : Int) (H : Heap) : Triple PP qm [iV c] H [] (OfQ c) := by
 refine rz (vs := [iV c]) (by kernel_rfl) ⟨rfl, trivial⟩ ?_
 simp only [qf]
 obtain ⟨d2, u2, n2⟩ := Fg
 refine aj fun r0 => aj fun r1 => aj fun r2 => ?_
 refine aa _ (an _ _) (ai (fun h => ?_) (fun h => ?_))
 ·have h : c = 1 := by simpa using h
  subst h
  refine pV _ (fun Hf _ _ => u6 r2 Hf) rfl ⟨rfl, trivial⟩ fun H1 l1 hf => ?_
  refine aj fun r5 => ?_
  refine ff (ad := ⟨r2, 0, none⟩) (rows := aO [1, 2, 3]) (news := aO [4, 5]) (size := 1) (e := 108) (by kernel_rfl) (EG (hf _ List.mem_cons_self)) (fun Hf _ hf2 => E4 (hf2 _ List.mem_cons_self)) (by rw [show jq PP 108 = 8 by kernel_rfl]; decide) (by decide) fun v' H2 l2 hs => ?_
  exact af ⟨⟨_, rfl, hs⟩, rfl⟩
 have n1 : c ≠ 1 := by simpa using h
 refine aa _ (an _ _) (ai (fun h => ?_) (fun h => ?_))
 ·have h : c = 2 := by simpa using h
  subst h
  refine fX u2 n2 (.inl ⟨rfl, rfl⟩) fun H1 l1 hf => ?_
  exact af ⟨⟨_, rfl, E4 (hf _ List.mem_cons_self)⟩, rfl⟩
 have n2' : c ≠ 2 := by simpa using h
 refine aa _ (an _ _) (ai (fun h => ?_) (fun h => ?_))
 ·have h' : c = 3 := by simpa using h
  exact Ff (fun _ => .inl h') (fun e => by rw [h] at e; cases e)
 have n3 : c ≠ 3 := by simpa using h
 refine aa _ (an _ _) ?_
 exact Ff (fun e => .inr (by simpa using e)) (fun e => by have : c ≠ 4 := (by simpa using e); omega)
theorem Ap {H : Heap} {O : Go.Sx.Own} {v : Value} {l : List Int} (h : RSl H O 1 v (l.map fun n => [I n])) (x : Int) : RetO PP bb [v, I x] H O (I (Aa l x 0)) := by
 refine cu (vs := [v, I x]) (by kernel_rfl) ⟨h.one, rfl, trivial⟩ ?_
 simp only [ba]
 refine aa _ h.len ?_
 refine aL l.length (fun i H' O' => O' = O ∧ Heap.le H H' ∧ Aa l x 0 = Aa (l.drop i) x i) ⟨rfl, Heap.le_refl H, by simp⟩ ?_
 rintro i H' O' hi - ⟨rfl, hle, hor⟩
 refine aa _ (aF _ _) (ai (fun hb => ?_) (fun hb => ?_))
 ·have hlt : i < l.length := by simpa using hb
  obtain ⟨a, h1, h2, _, h3, h4⟩ := (h.le hle).idx .i64 i [I l[i]] (by simp [hlt])
  refine aa _ h1 (ao h2 h3 h4 (aa _ (an _ _) (ai (fun hb => ?_) (fun hb => ?_))))
  ·refine af ⟨?_, rfl⟩
   rw [hor, List.drop_eq_getElem_cons hlt, Aa, if_pos hb]; rfl
  ·refine aa _ (aD (by have := h.lenB; simp at this; omega)) (az (by simp [Eqs, E]) hlt ⟨rfl, hle, ?_⟩)
   rw [hor, List.drop_eq_getElem_cons hlt, Aa, if_neg (by rw [hb]; simp)]; rfl
 ·have hge : l.length ≤ i := by simpa using hb
  refine af ⟨?_, rfl⟩
  rw [hor, List.drop_of_length_le hge]; rfl
theorem uY {H : Heap} {O : Go.Sx.Own} {v : Value} {l : List Int} (h : RSl H O 1 v (l.map fun n => [I n])) (x : Int) : RetO PP aQ [v, I x] H O (.bool (l.contains x)) := by
 refine bT (vs := [v, I x]) (by kernel_rfl) ⟨h.one, rfl, trivial⟩ ?_
 simp only [aP]
 refine ak (Ap h x) rfl ⟨rfl, trivial⟩ fun H1 _ => aa _ (iI _ _) (af ⟨?_, rfl⟩)
 rw [← yA l x 0 (by omega)]
theorem CM {H : Heap} {O : Go.Sx.Own} (p m : Int) : RetO PP ql [iV p, iV m] H O (iV (max 0 (min p m))) := by
 refine rx (vs := [iV p, iV m]) (by kernel_rfl) ⟨rfl, rfl, trivial⟩ ?_
 simp only [qe]
 exact aa _ (BD _ _) (aa _ (BH _ _) (af ⟨rfl, rfl⟩))
theorem mD (n lo hi : Int) (H : Heap) (O : Go.Sx.Own) : RetO PP kA [iV n, iV lo, iV hi] H O (.bool (inR n lo hi)) := by
 refine mS (vs := [iV n, iV lo, iV hi]) (by kernel_rfl) ⟨rfl, rfl, rfl, trivial⟩ ?_
 simp only [kw]
 refine aa _ (iI _ _) (ai (fun h => ?_) (fun h => ?_))
 ·refine ak (CM n hi) rfl ⟨rfl, trivial⟩ fun H1 _ => aa _ (an _ _) (af ⟨?_, rfl⟩)
  rw [inR, h, Bool.true_and]
 ·refine af ⟨?_, rfl⟩
  rw [inR, h, Bool.false_and]
theorem nh {H : Heap} {O : Go.Sx.Own} {s : Value} {l : List Int} (h : RSl H O 1 s (aO l)) (e : Eff) : RetO PP en [s, .agg e.row.toArray] H O (.bool (ED l e)) := by
 refine kY (vs := s :: e.row) (by kernel_rfl) ⟨h.one, ij e⟩ ?_
 simp only [hM]
 refine aj fun r0 => ?_
 refine ae ?_
 refine ak (uY h e.target) rfl ⟨rfl, trivial⟩ fun H1 _ => ?_
 refine ae (ab (ab ?_))
 refine aa _ (an _ _) ?_
 refine ab ?_
 refine aa _ (ap _ _) ?_
 refine ae (ab (ab ?_))
 refine aa _ (an _ _) ?_
 refine ab ?_
 refine aa _ (ap _ _) ?_
 refine ae (ab (ab ?_))
 refine aa _ (an _ _) ?_
 refine ab ?_
 refine aa _ (ap _ _) ?_
 exact af ⟨rfl, rfl⟩
theorem tY {H : Heap} {O : Go.Sx.Own} {s : Value} {l : List Int} (h : RSl H O 1 s (aO l)) (m : Int) (e : Eff) : RetO PP dh [.agg #[s, iV m], .agg e.row.toArray] H O (.bool (DL l m e)) := by
 refine iZ (vs := s :: iV m :: e.row) (by kernel_rfl) ⟨h.one, rfl, ij e⟩ ?_
 simp only [eU]
 refine aj fun r0 => aj fun r1 => ?_
 refine ae (ae (ae ?_))
 refine ak (mD e.n 1 m _ _) rfl ⟨rfl, trivial⟩ fun H1 l1 => ai (fun hb => ?_) (fun hb => ?_)
 ·refine ae (ae ?_)
  refine ak (nh (h.le l1) { e with n := 0 }) rfl ⟨rfl, trivial⟩ fun H2 _ => af ⟨?_, rfl⟩
  rw [DL, hb, Bool.true_and]; rfl
 ·refine af ⟨?_, rfl⟩
  rw [DL, hb, Bool.false_and]
theorem y0 {H : Heap} {O : Go.Sx.Own} {s : Value} {l : List Int} (h : RSl H O 1 s (aO l)) {m : Int} (hm : 0 ≤ m) (e : Eff) : RetO PP dr [.agg #[s, iV m], .agg e.row.toArray] H O (.bool (DK l m e)) := by
 refine jP (vs := s :: iV m :: e.row) (by kernel_rfl) ⟨h.one, rfl, ij e⟩ ?_
 simp only [fw]
 refine aj fun r0 => aj fun r1 => ?_
 refine ae (ae (ae (ae ?_)))
 refine ak (mD e.n 0 9 _ _) rfl ⟨rfl, trivial⟩ fun H1 l1 => ai (fun hb => ?_) (fun hb => ?_)
 rotate_left
 ·refine af ⟨?_, rfl⟩
  rw [DK, hb]; rfl
 refine ae ?_
 refine ak (mD e.m m 9 _ _) rfl ⟨rfl, trivial⟩ fun H2 l2 => ?_
 refine ab (ab ?_)
 have hw : ∃ z, ah (.bin .add .int) [iV e.n, iV e.m] = some (iV z) ∧ (inR e.m m 9 = true → z = e.n + e.m) := by
  refine ⟨IntKind.i64.wrap (e.n + e.m), rfl, fun hm9 => ?_⟩
  simp only [inR, Bool.and_eq_true, decide_eq_true_eq, beq_iff_eq] at hb hm9
  exact iQ (by omega) (by omega)
 obtain ⟨z, hz, hze⟩ := hw
 refine aa _ hz ?_
 refine ab ?_
 refine aa _ (cH _ _) ?_
 refine ab ?_
 refine aa _ (ap _ _) (ai (fun hc => ?_) (fun hc => ?_))
 ·rw [Bool.and_eq_true] at hc
  refine ae (ae ?_)
  refine ak (nh (h.le (Heap.le_trans l1 l2)) { e with n := 0, m := 0 }) rfl ⟨rfl, trivial⟩ fun H3 _ => af ⟨?_, rfl⟩
  rw [DK, hb, hc.1, ← hze hc.1, hc.2]; rfl
 ·refine af ⟨?_, rfl⟩
  rw [DK, hb, Bool.true_and]
  by_cases hm9 : inR e.m m 9 = true
  ·rw [hm9, Bool.true_and] at hc
   rw [hm9, ← hze hm9, Bool.true_and, hc]; rfl
  ·rw [show inR e.m m 9 = false by simpa using hm9]; rfl
theorem y2 {H : Heap} {O : Go.Sx.Own} {s : Value} {l : List Int} (h : RSl H O 1 s (aO l)) (m : Int) (e : Eff) : RetO PP cO [.agg #[s, iV m], .agg e.row.toArray] H O (.bool (EC l m e)) := by
 refine iw (vs := s :: iV m :: e.row) (by kernel_rfl) ⟨h.one, rfl, ij e⟩ ?_
 simp only [eB]
 refine aj fun r0 => aj fun r1 => ?_
 refine ae (ae ?_)
 refine ak (mD e.colour 0 3 _ _) rfl ⟨rfl, trivial⟩ fun H1 l1 => ai (fun hb => ?_) (fun hb => ?_)
 ·refine ae (ae ?_)
  refine ak (tY (h.le l1) m { e with colour := 0 }) rfl ⟨rfl, trivial⟩ fun H2 _ => af ⟨?_, rfl⟩
  rw [EC, hb, Bool.true_and]; rfl
 ·refine af ⟨?_, rfl⟩
  rw [EC, hb, Bool.false_and]
theorem vJ {t : TypeId} {v : Value} : ∀ w, ((PrimOp.eqv .neq 195 true).sem [.iface t v, .nilIface]).run PP w = .ok (.value (.bool true)) w := fun w => by kernel_rfl
theorem BB : ∀ w, ((PrimOp.eqv .neq 195 true).sem [.nilIface, .nilIface]).run PP w = .ok (.value (.bool false)) w := fun w => by kernel_rfl
theorem zU (v : Value) : nX PP "zeitnot/effect.fits" (.iface 228 v) en v := ⟨_, _, rfl, fun w => by kernel_rfl⟩
theorem BG (v : Value) : nX PP "zeitnot/effect.fits" (.iface 231 v) dh v := ⟨_, _, rfl, fun w => by kernel_rfl⟩
theorem BE (v : Value) : nX PP "zeitnot/effect.fits" (.iface 233 v) dr v := ⟨_, _, rfl, fun w => by kernel_rfl⟩
theorem BF (v : Value) : nX PP "zeitnot/effect.fits" (.iface 235 v) cO v := ⟨_, _, rfl, fun w => by kernel_rfl⟩
theorem xM {H : Heap} {R : Rl} {r : Value} (h : Eu H R r) : r.oneCell' = true := by
 cases R with
 | no => rw [show r = .nilIface from h]; rfl
 | bare l => obtain ⟨s, rfl, _⟩ := h; rfl
 | cnt l m => obtain ⟨s, rfl, _⟩ := h; rfl
 | par l m => obtain ⟨s, rfl, _⟩ := h; rfl
 | col l m => obtain ⟨s, rfl, _⟩ := h; rfl
theorem Bv {c : Int} {l : List Int} {m : Int} (h : nr c = .par l m) : 0 ≤ m := by
 rw [nr] at h
 repeat' (split at h)
 all_goals first | (injection h with h1 h2; omega) | cases h
theorem xf (e : Eff) (H : Heap) : RetO PP ln [.agg e.row.toArray] H [] (.bool (EF e)) := by
 refine om (vs := e.row) (by kernel_rfl) (ij e) ?_
 simp only [lj]
 refine aj fun r0 => ?_
 refine ae ?_
 refine bn (FR e.code H) ?_
 rintro r H1 _ ⟨hr, rfl⟩ l1
 refine ⟨[r], rfl, ⟨xM hr, trivial⟩, ?_⟩
 have hpp := @Bv e.code
 rw [EF]
 generalize nr e.code = R at hr hpp
 cases R with
 | no =>
  rw [show r = .nilIface from hr]
  refine ⟨_, fun _ => BB, rfl, ai (fun hd => by cases hd) (fun _ => ?_)⟩
  exact af ⟨rfl, rfl⟩
 | bare l =>
  obtain ⟨s, rfl, hs⟩ := hr
  refine ⟨_, fun _ => vJ, rfl, ai (fun _ => ?_) (fun hd => by cases hd)⟩
  refine ae ?_
  exact mC (zU s) (ie ju (by decide)) (nh (hs.rsl []) e) rfl ⟨rfl, trivial⟩ fun H2 l2 => af ⟨rfl, rfl⟩
 | cnt l m =>
  obtain ⟨s, rfl, hs⟩ := hr
  refine ⟨_, fun _ => vJ, rfl, ai (fun _ => ?_) (fun hd => by cases hd)⟩
  refine ae ?_
  exact mC (BG _) (ie ju (by decide)) (tY (hs.rsl []) m e) rfl ⟨rfl, trivial⟩ fun H2 l2 => af ⟨rfl, rfl⟩
 | par l m =>
  obtain ⟨s, rfl, hs⟩ := hr
  refine ⟨_, fun _ => vJ, rfl, ai (fun _ => ?_) (fun hd => by cases hd)⟩
  refine ae ?_
  exact mC (BE _) (ie ju (by decide)) (y0 (hs.rsl []) (hpp rfl) e) rfl ⟨rfl, trivial⟩ fun H2 l2 => af ⟨rfl, rfl⟩
 | col l m =>
  obtain ⟨s, rfl, hs⟩ := hr
  refine ⟨_, fun _ => vJ, rfl, ai (fun _ => ?_) (fun hd => by cases hd)⟩
  refine ae ?_
  exact mC (BF _) (ie ju (by decide)) (y2 (hs.rsl []) m e) rfl ⟨rfl, trivial⟩ fun H2 l2 => af ⟨rfl, rfl⟩
end Go.Proofs.YtamgiojcbdbokaaGreatDoor
