/- pool.New, pool.Find; the reference's Find. -/
import Derived.Test.YtamgiojcbdbokaaGreatDoorM
namespace Go.Proofs.YtamgiojcbdbokaaGreatDoor
open Go Go.Sx
set_option maxRecDepth 100000
set_option maxHeartbeats 1000000
theorem CB {r : List Value} (h : r.length = 14) : (.agg #[g r 0, g r 1, g r 2, g r 3, g r 4, g r 5, g r 6, g r 7, g r 8, g r 9, g r 10, g r 11, g r 12, g r 13] : Value) = .agg r.toArray := by
 match r, h with
 | [_, _, _, _, _, _, _, _, _, _, _, _, _, _], _ => rfl
theorem g14 {r : List Value} (h : r.length = 14) : G14 r 0 = r := by
 match r, h with
 | [_, _, _, _, _, _, _, _, _, _, _, _, _, _], _ => rfl
def hM (cs : List CdF) (k : List UInt8) : Option Nat := cs.findIdx? fun c => k == c.nm
theorem tz (k : List UInt8) : ∀ (cs : List CdF) (o : Nat), gw ((cs.zipIdx o).map fun p => (p.1.nm, iV (p.2 : Nat))) k = (hM cs k).map fun j => iV ((o + j : Nat) : Int)
 | [], o => rfl
 | c :: cs, o => by
  rw [List.zipIdx_cons, List.map_cons, hM, List.findIdx?_cons]
  by_cases h : k = c.nm
  ·simp [gw, h]
  ·have hb : (k == c.nm) = false := by simpa using h
   have ih := tz k cs (o + 1)
   rw [hb]
   simp only [gw, List.find?_cons, hb] at ih ⊢
   rw [ih, hM]
   cases cs.findIdx? fun c => k == c.nm with
   | none => rfl
   | some j => simp only [Option.map_some, Bool.false_eq_true, if_false]; congr 2; omega
theorem pT (cs : List CdF) (k : List UInt8) : gw (ia cs) k = (hM cs k).map fun j : Nat => iV (j : Int) := by
 rw [ia, tz k cs 0]
 congr 1
 funext j
 rw [Nat.zero_add]
theorem w9 (c : CdF) (cs : List CdF) (k : List UInt8) : hM (c :: cs) k = if (k == c.nm) = true then some 0 else (hM cs k).map (· + 1) := by rw [hM, List.findIdx?_cons]; rfl
theorem w8 {cs : List CdF} {k : List UInt8} : hM cs k = none ↔ k ∉ cs.map (·.nm) := by
 rw [hM, List.findIdx?_eq_none_iff]
 simp only [List.mem_map, not_exists, not_and, beq_eq_false_iff_ne]
 exact ⟨fun h c hc e => h c hc e.symm, fun h c hc e => h c hc e.symm⟩
theorem wZ {cs : List CdF} {k : List UInt8} {j : Nat} (h : hM cs k = some j) : ∃ hj : j < cs.length, cs[j].nm = k := by
 rw [hM, List.findIdx?_eq_some_iff_getElem] at h
 obtain ⟨h1, h2, _⟩ := h
 exact ⟨h1, (by simpa using h2 : k = cs[j].nm).symm⟩
theorem wS {cs : List CdF} {i : Nat} (h : i < cs.length) : ia (cs.take (i + 1)) = ia (cs.take i) ++ [(cs[i].nm, iV (i : Nat))] := by
 have hm : (cs.take i).length = i := by rw [List.length_take]; omega
 rw [ia, ia, List.take_add_one, List.getElem?_eq_getElem h, Option.toList_some, List.zipIdx_append, List.map_append, hm]
 simp
theorem Bq : PP.underlying 103 = some (.map ul dn) := by kernel_rfl
theorem Et : PP.underlying ul = some .string := by kernel_rfl
theorem CV : ∀ w, (zeroValue dn).run PP w = .ok (iV 0) w := by
 intro w
 have : (PP.info? dn).bind (·.zero) = some (iV 0) := by kernel_rfl
 simp only [Option.bind_eq_some_iff] at this
 obtain ⟨i, hi, hz⟩ := this
 simp [zeroValue, typeInfo, hi, hz]
def Ft (cs : List CdF) (V : Nat → Bool → Prop) (r : Value) (H' : Heap) (O' : Go.Sx.Own) : Prop :=
 (∃ r1 T x mv rows Om Ox, r = .tuple #[.pointer (some ⟨r1, 0, none⟩), iV 0] ∧ H' r1 = some (.cells #[x, mv] T (0, 0)) ∧ OMapS mv (ia cs) Om ∧ OSl me 14 x rows Ox ∧ RowsF H' rows cs ∧ (cs.map (·.nm)).Nodup ∧ O'.Perm (Om ++ Ox) ∧ ∀ j, j < cs.length → V j true) ∨
 (∃ e, r = .tuple #[.pointer none, iV e] ∧ e ≠ 0 ∧ (400 < cs.length ∨ (∃ i, i < cs.length ∧ V i false) ∨ ¬ (cs.map (·.nm)).Nodup))
def Fv (cs : List CdF) (V : Nat → Bool → Prop) (r : Value) (H' : Heap) (O' : Go.Sx.Own) : Prop :=
 ((∃ p, r = .tuple #[p, iV 0] ∧ PoolF H' p cs ∧ ∀ j, j < cs.length → V j true) ∨ (∃ e, r = .tuple #[.pointer none, iV e] ∧ e ≠ 0 ∧ (400 < cs.length ∨ (∃ i, i < cs.length ∧ V i false) ∨ ¬ (cs.map (·.nm)).Nodup))) ∧ O' = []
def y7 (H : Heap) (cs : List CdF) (V : Nat → Bool → Prop) : Prop := ∀ (i : Nat) (hi : i < cs.length) (H' : Heap) (r : List Value), Heap.le H H' → r.length = 14 → CdRF H' r cs[i] → Triple PP lj [.agg r.toArray] H' [] fun x _ O' => (∃ b, x = .bool b ∧ V i b) ∧ O' = []
theorem xR {H H' : Heap} {rows : List (List Value)} {cs : List CdF} {i : Nat} (h : RowsF H rows (cs.take i)) (hl : Heap.le H H') (hi : i < cs.length) {r : List Value} (hr : CdRF H' r cs[i]) : RowsF H' (rows ++ [r]) (cs.take (i + 1)) := by
 have hm : (cs.take i).length = i := by rw [List.length_take]; omega
 have hrl : rows.length = i := h.1.trans hm
 have hm2 : (cs.take (i + 1)).length = i + 1 := by rw [List.length_take]; omega
 refine ⟨by rw [List.length_append, hrl, hm2]; rfl, fun j q c a b => ?_⟩
 have hj : j < i + 1 := by have := (List.getElem?_eq_some_iff.1 b).1; omega
 rw [List.getElem?_take_of_lt hj] at b
 by_cases hji : j < i
 ·rw [List.getElem?_append_left (by omega)] at a
  exact (h.2 j q c a (by rw [List.getElem?_take_of_lt hji]; exact b)).le hl
 ·obtain rfl : j = i := by omega
  rw [List.getElem?_append_right (by omega), hrl, Nat.sub_self] at a
  simp only [List.getElem?_cons_zero, Option.some.injEq] at a
  rw [List.getElem?_eq_getElem hi] at b
  rw [← Option.some.inj b, ← a]; exact hr
theorem Dx {H : Heap} {cv : Value} {cs : List CdF} (h : CardsF H cv cs) (hlit : ∀ c ∈ cs, zM c) {V : Nat → Bool → Prop} (hval : y7 H cs V) : Triple PP jf [cv] H [] (Ft cs V) := by
 refine s4 (vs := [cv]) (by kernel_rfl) ⟨h.one, trivial⟩ ?_
 simp only [rB]
 have clen := h.len
 refine aa _ clen ?_
 refine aa _ (b7 _ _) (ai (fun hc => ?_) (fun hc => ?_))
 ·exact af (.inr ⟨5, rfl, by omega, .inl (by have := of_decide_eq_true hc; omega)⟩)
 have h400 : cs.length ≤ 400 := by have := of_decide_eq_false hc; omega
 refine aa _ clen ?_
 refine aJ cs.length (fun i H' O' => O' = [] ∧ Heap.le H H' ∧ ∀ j, j < i → V j true) ⟨rfl, Heap.le_refl _, fun j hj => by omega⟩ ?_
 rintro i H1 O1 hi - ⟨rfl, l1, hV⟩
 refine aa _ (av _ _) (ai (fun hlt => ?_) (fun hfin => ?_))
 ·have hlt : i < cs.length := by have := of_decide_eq_true hlt; omega
  obtain ⟨a, row, k1, k2, _, k4, k5, k6⟩ := iH [] (h.le l1) hlt
  refine aa _ k1 (an k2 k4 k5 (aj fun r0 => ?_))
  refine ae (ae ?_)
  rw [show (ag (G14 row 0) : Value) = .agg row.toArray from CB k4]
  refine bj (hval i hlt H1 row l1 k4 k6) ?_
  rintro _ H2 _ ⟨⟨b, rfl, hb⟩, rfl⟩ l2
  refine ⟨[.bool b], rfl, ⟨rfl, trivial⟩, ?_⟩
  refine aa _ (aD _) (ai (fun hd => ?_) (fun hd => ?_))
  ·exact af (.inr ⟨2, rfl, by omega, .inr (.inl ⟨i, hlt, by rw [Dh hd] at hb; exact hb⟩)⟩)
  ·refine aa _ (aw (by omega)) (aA (by simp [Eqs, E]) hlt ⟨rfl, Heap.le_trans l1 l2, fun j hj => ?_⟩)
   rcases Nat.lt_succ_iff_lt_or_eq.1 hj with hj | rfl
   ·exact hV j hj
   ·rw [CO hd] at hb; exact hb
 have hV : ∀ j, j < cs.length → V j true := fun j hj => hV j (by have := of_decide_eq_false hfin; omega)
 refine xg fun mv Om hm => ?_
 rw [List.append_nil]
 refine aj fun r1 => ?_
 refine aa _ clen ?_
 refine ib (fun vs H' O' => ∃ (i : Nat) (x : Value) (rows : List (List Value)) (Om Ox : Go.Sx.Own), vs = [iV i, x] ∧ i ≤ cs.length ∧ Heap.le H H' ∧ OMapS mv (ia (cs.take i)) Om ∧ OSl me 14 x rows Ox ∧ RowsF H' rows (cs.take i) ∧ ((cs.take i).map (·.nm)).Nodup ∧ O'.Perm (Om ++ Ox)) (fun vs _ _ => match g vs 0 with | .int _ k => cs.length + 1 - k.toNat | _ => 0)
  ⟨0, .slice none 0 0, [], Om, [], rfl, Nat.zero_le _, l1, hm, OSl.nil _ _, ⟨rfl, fun i r c a => by simp at a⟩, List.nodup_nil, by simp⟩ ?_
 rintro _ H2 O2 _ _ _ ⟨i, x, rows, Om, Ox, rfl, hi, hle, hm, hx, hrows, hnd, hp⟩
 refine aa _ (av _ _) (ai (fun hlt => ?_) (fun hge => ?_))
 ·have hlt : i < cs.length := by have := of_decide_eq_true hlt; omega
  obtain ⟨a, row, k1, k2, _, k4, k5, k6⟩ := iH O2 (h.le hle) hlt
  have hnm : g row 0 = Str cs[i].nm := k6.nm.1
  have hmm : ∀ p ∈ Om, p ∈ O2 := fun p hp' => hp.mem_iff.2 (List.mem_append_left _ hp')
  refine aa _ k1 (an k2 k4 k5 (aj fun r2 => ?_))
  refine ae (ae (ae ?_))
  rw [hnm]
  have hlook := pT (cs.take i) cs[i].nm
  refine t8 Bq Et CV hm hmm cs[i].nm (by rw [hlook]; cases hM (cs.take i) cs[i].nm <;> rfl) ?_
  refine ai (fun hd => ?_) (fun hd => ?_)
  ·refine af (.inr ⟨11, rfl, by omega, .inr (.inr fun hn => ?_)⟩)
   have hd : (gw (ia (cs.take i)) cs[i].nm).isSome = true := hd
   rw [hlook] at hd
   cases hf : hM (cs.take i) cs[i].nm with
   | none => rw [hf] at hd; cases hd
   | some j =>
    obtain ⟨hj, hjn⟩ := wZ hf
    have hjl : j < i := by rw [List.length_take] at hj; omega
    rw [List.getElem_take] at hjn
    refine (List.pairwise_iff_getElem.1 hn) j i (by rw [List.length_map]; omega) (by rw [List.length_map]; exact hlt) hjl ?_
    rw [List.getElem_map, List.getElem_map]; exact hjn
  have hd : (gw (ia (cs.take i)) cs[i].nm).isSome = false := hd
  have hnone : gw (ia (cs.take i)) cs[i].nm = none := by simpa using hd
  have hnot : cs[i].nm ∉ (cs.take i).map (·.nm) := by
   rw [hlook, Option.map_eq_none_iff] at hnone
   exact w8.1 hnone
  refine ae (ae ?_)
  refine tZ Bq Et hm hp cs[i].nm (iV i) hnone fun rr Om' hm' _ => ?_
  rw [← wS hlt] at hm'
  refine ae (ae ?_)
  rw [show (ag (G14 row 0) : Value) = .agg row.toArray from CB k4]
  refine bj (AL k6 (hlit _ (List.getElem_mem hlt))) ?_
  rintro _ H3 _ ⟨⟨cells, rfl, c1, c2⟩, rfl⟩ l3
  rw [List.nil_append]
  refine ⟨cells, by simp [Shp.open, c1], c2.ones, aj fun r3 => ?_⟩
  have hrl : rows.length = i := by have := hrows.1; rw [List.length_take] at this; omega
  rw [g14 c1]
  refine ct (rows := rows) (news := [cells]) (O1 := Ox) (O2 := Om') (e := me) (size := 14) (bytes := 152) (by kernel_rfl) List.perm_append_comm hx (fun Hf _ hf => Sl.block1 (hf _ List.mem_cons_self) c1 c2.ones) (by rw [hrl, List.length_singleton]; omega) (by rw [hrl, List.length_singleton]; omega) ?_
  intro v' A' H6 l6 hA'
  refine ae ?_
  refine aa _ (aw (by omega)) (eP (by simp [Eqs, E]) ⟨i + 1, v', rows ++ [cells], Om', A', rfl, hlt, Heap.le_trans hle (Heap.le_trans l3 l6), hm', hA', xR hrows (Heap.le_trans l3 l6) hlt (c2.le l6), ?_, List.perm_append_comm⟩ ?_)
  ·rw [List.take_add_one, List.getElem?_eq_getElem hlt, Option.toList_some, List.map_append, List.nodup_append]
   refine ⟨hnd, by simp, fun y hy z hz e => ?_⟩
   obtain rfl : z = cs[i].nm := by simpa using hz
   exact hnot (e ▸ hy)
  ·show cs.length + 1 - ((i + 1 : Nat) : Int).toNat < cs.length + 1 - (i : Int).toNat
   omega
 ·have hge : cs.length ≤ i := by have := of_decide_eq_false hge; omega
  rw [List.take_of_length_le hge] at hm hrows hnd
  refine xU fun H' l hf => .inl ⟨r1, _, x, mv, rows, Om, Ox, rfl, hf _ List.mem_cons_self, hm, hx, hrows.le l, hnd, hp, hV⟩
theorem EL {H : Heap} {cv : Value} {cs : List CdF} (h : CardsF H cv cs) (hlit : ∀ c ∈ cs, zM c) {V : Nat → Bool → Prop} (hval : y7 H cs V) : Triple PP jf [cv] H [] (Fv cs V) := by
 refine Triple.ghost (Dx h hlit hval) ?_
 rintro r H' O' _ hc (⟨r1, T, x, mv, rows, Om, Ox, rfl, h1, hm, hx, hrows, hnd, hp, hV⟩ | ⟨e, rfl, he, hw⟩)
 ·have hc := hc.perm hp
  obtain ⟨H1, g1, k1, l1⟩ := hm.freeze hc
  have hc := hc.ghost g1
  obtain ⟨H2, g2, k2, l2⟩ := hx.freeze (X := []) (by simpa using hc)
  exact ⟨H2, [], (Ghost.perm hp).trans (g1.trans (by simpa using g2)), .inl ⟨_, rfl, ⟨r1, x, mv, T, rfl, l2.1 _ _ (l1.1 _ _ h1), ⟨rows, k2, hrows.le (Heap.le_trans l1 l2)⟩, k1.le l2, hnd, hlit⟩, hV⟩, rfl⟩
 ·exact ⟨H', [], Ghost.drop _ _, .inr ⟨e, rfl, he, hw⟩, rfl⟩
def qc (cs : List CdF) (k : List UInt8) : Int × Int := match hM cs k with | some j => ((j : Int), 0) | none => (0, 9)
theorem DD {H : Heap} {p : Value} {cs : List CdF} (h : PoolF H p cs) (k : List UInt8) (O : Go.Sx.Own) : RetO PP jQ [p, Str k] H O (xu (qc cs k)) := by
 refine mq (vs := [p, Str k]) (by kernel_rfl) ⟨h.one, rfl, trivial⟩ ?_
 simp only [jL]
 refine ak (AH h) rfl ⟨rfl, trivial⟩ fun H1 l1 => ai (fun hd => by cases hd) (fun _ => ?_)
 obtain ⟨r, cv, mv, T, rfl, h1, h2, h3, h4, h5⟩ := h.le l1
 obtain ⟨_, q2⟩ := nl O h1
 have hlook := pT cs k
 refine ap rfl (ap rfl ?_)
 refine an q2 rfl ⟨h3.one, trivial⟩ ?_
 refine ua Bq Et CV h3 k (by rw [hlook]; cases hM cs k <;> rfl) ?_
 refine aa _ (aD _) (ai (fun hd => ?_) (fun hd => ?_))
 ·have hd : (gw (ia cs) k).isSome = false := Dh hd
  rw [hlook] at hd
  have hn : hM cs k = none := by simpa using hd
  exact af ⟨by rw [qc, hn]; rfl, rfl⟩
 ·have hd : (gw (ia cs) k).isSome = true := CO hd
  rw [hlook] at hd ⊢
  cases hf : hM cs k with
  | none => rw [hf] at hd; cases hd
  | some j =>
   exact af ⟨by rw [qc, hf]; rfl, rfl⟩
def yL (cs : List CdF) (k : List UInt8) : Value := match hM cs k with | some j => .tuple #[iV (j : Int), .bool true] | none => .tuple #[iV 0, .bool false]
theorem Db {H : Heap} {cv : Value} {cs : List CdF} (h : CardsF H cv cs) (k : List UInt8) (O : Go.Sx.Own) : RetO PP gY [cv, Str k] H O (yL cs k) := by
 refine km (vs := [cv, Str k]) (by kernel_rfl) ⟨h.one, rfl, trivial⟩ ?_
 simp only [gK]
 have clen := h.len
 have hcB := h.lenB
 refine aJ cs.length (fun i H' O' => O' = O ∧ Heap.le H H' ∧ hM cs k = (hM (cs.drop i) k).map (· + i)) ⟨rfl, Heap.le_refl _, by simp⟩ ?_
 rintro i H1 O1 hi - ⟨rfl, l1, hg⟩
 refine aa _ clen ?_
 refine aa _ (av _ _) (ai (fun hlt => ?_) (fun hge => ?_))
 ·have hlt : i < cs.length := by have := of_decide_eq_true hlt; omega
  obtain ⟨a, row, k1, k2, k3, k4, k5, k6⟩ := iH O1 (h.le l1) hlt
  have hnm := k6.nm.1
  have q0 : Reads H1 O1 (.pointer (some a)) 1 [Str cs[i].nm] := by
   have := k3 0 1 (by omega)
   rw [CN] at this
   obtain ⟨es, ts, rfl, _⟩ := k6
   exact this
  rw [List.drop_eq_getElem_cons hlt, w9] at hg
  refine aa _ k1 ?_
  refine ap rfl ?_
  refine an q0 rfl ⟨rfl, trivial⟩ ?_
  refine aa _ (uw _ _) (ai (fun hd => ?_) (fun hd => ?_))
  ·have hd : (cs[i].nm == k) = true := hd
   rw [if_pos (show (k == cs[i].nm) = true from by simpa using (beq_iff_eq.1 hd).symm), Option.map_some, Nat.zero_add] at hg
   exact af ⟨by rw [yL, hg]; rfl, rfl⟩
  ·have hd : (cs[i].nm == k) = false := hd
   rw [if_neg (show ¬ (k == cs[i].nm) = true from by rw [beq_eq_false_iff_ne] at hd; rw [beq_iff_eq]; exact fun e => hd e.symm)] at hg
   refine aa _ (aw (by omega)) (aA (by simp [Eqs, E]) hlt ⟨rfl, l1, ?_⟩)
   rw [hg]
   cases hM (cs.drop (i + 1)) k with
   | none => rfl
   | some j => simp only [Option.map_some]; congr 1; omega
 ·have hge : cs.length ≤ i := by have := of_decide_eq_false hge; omega
  rw [List.drop_of_length_le hge] at hg
  exact af ⟨by rw [yL, hg]; rfl, rfl⟩
abbrev I (n : Int) : Value := .int .i64 n
theorem Bh (x y : Int) : ah .min2 [iV x, iV y] = some (iV (min x y)) := by
 simp only [ah]; congr 2; omega
theorem Bn (x y : Int) : ah .max2 [iV x, iV y] = some (iV (max x y)) := by
 simp only [ah]; congr 2; omega
def Ed (l : List Int) (e : Eff) : Bool := ((l.contains e.target && e.n == 0) && e.m == 0) && e.colour == 0
def inR (n lo hi : Int) : Bool := decide (n ≥ lo) && max 0 (min n hi) == n
def Dn (l : List Int) (most : Int) (e : Eff) : Bool := inR e.n 1 most && Ed l { e with n := 0 }
def Dm (l : List Int) (zO : Int) (e : Eff) : Bool := ((inR e.n 0 9 && inR e.m zO 9) && decide (e.n + e.m > 0)) && Ed l { e with n := 0, m := 0 }
def Ec (l : List Int) (most : Int) (e : Eff) : Bool := inR e.colour 0 3 && Dn l most { e with colour := 0 }
inductive Rl where
 | no
 | bare (l : List Int)
 | cnt (l : List Int) (m : Int)
 | par (l : List Int) (m : Int)
 | col (l : List Int) (m : Int)
def nG (c : Int) : Rl :=
 if c = 1 then .cnt [1, 2, 3, 4, 5] 99 else if c = 2 then .cnt [0, 4] 7 else if c = 3 ∨ c = 4 then .cnt [0, 4] 99
 else if c = 5 ∨ c = 6 ∨ c = 11 then .bare [1, 2, 3] else if c = 7 then .bare [6] else if c = 8 then .par [1, 2, 3, 0] 0
 else if c = 9 then .cnt [1, 2, 3, 0] 9 else if c = 10 then .par [0] 1 else if c = 12 then .col [0] 9 else .no
def Rl.fits : Rl → Eff → Bool
 | .no, _ => false
 | .bare l, e => Ed l e
 | .cnt l m, e => Dn l m e
 | .par l m, e => Dm l m e
 | .col l m, e => Ec l m e
def Eg (e : Eff) : Bool := (nG e.code).fits e
def zQ : List Int → Int → Int → Int
 | [], _, _ => -1
 | a :: r, x, i => if x == a then i else zQ r x (i + 1)
theorem yB : ∀ (l : List Int) (x i : Int), 0 ≤ i → (decide (0 ≤ zQ l x i) = l.contains x)
 | [], x, i, _ => by simp [zQ]
 | a :: r, x, i, h => by
  simp only [zQ, List.contains_cons]
  by_cases hx : x = a
  ·simp [hx, h]
  ·simp only [beq_iff_eq, hx, if_false]
   rw [yB r x (i + 1) (by omega)]
   simp [hx]
theorem fk {P : Program} {t ty e : TypeId} {size : Nat} (ha : wu P t e size = true) {ad : Addr} {rows news : List (List Value)} {x : Value} {H : Heap} {O : Go.Sx.Own} {frz : List BV} {K : List Value → List (List Value) → Heap → Go.Sx.Own → Prop}
  (hr : Sl H size (.slice (some ad) rows.length rows.length) rows) (hx : ∀ Hf, Heap.le H Hf → (∀ b ∈ frz, Hf b.r = some b.obj.2) → Sl Hf size x news)
  (hb : (rows.length + news.length) * jF P e ≤ 140737488355328) (h63 : rows.length + news.length < 2 ^ 63) (hk : ∀ v' H', Heap.le H H' → Sl H' size v' (rows ++ news) → K [v'] [] H' O) :
  ce (fun H1 O1 R => bq P ((PrimOp.bi .append #[t, t] ty).sem [.slice (some ad) rows.length rows.length, x]) H1 O1 R) false frz [] .one K H O := by
 intro hc
 have hf := dR hc
 have hl := Heap.le_insAll frz H
 refine ⟨H.insAll frz, [], O, _, Ghost.refl _ _, by simpa using xr (ty := ty) ha (hr.le hl) (hx _ hl hf) hb h63, ?_⟩
 rintro v' H' O' ⟨rfl, hle, hs⟩ _
 exact ⟨[v'], [], [], rfl, ⟨hs.one, trivial⟩, trivial, rfl, hk v' H' (Heap.le_trans hl hle) hs⟩
theorem gm {P : Program} {t : TypeId} {d : TypeDesc} (hu : P.underlying t = some d) (hni : ∀ m, d ≠ .interface m) {b : Bool} {args : List Value} {x : Value} (hx : (b = true ∧ x = .agg args.toArray) ∨ (b = false ∧ args = [x])) {frz : List BV} {H : Heap} {O : Go.Sx.Own}
  {K : List Value → List (List Value) → Heap → Go.Sx.Own → Prop} (hk : ∀ H', Heap.le H H' → (∀ b ∈ frz, H' b.r = some b.obj.2) → K [.iface t x] [] H' O) :
  ce (fun H1 O1 R => bq P ((PrimOp.mkIface t b).sem args) H1 O1 R) false frz [] .one K H O := by
 intro hc
 have hf := dR hc
 have hl := Heap.le_insAll frz H
 have hrun : ∀ w, ((PrimOp.mkIface t b).sem args).run P w = .ok (.value (.iface t x)) w := fun w => by
  rcases hx with ⟨rfl, rfl⟩ | ⟨rfl, rfl⟩
  ·simp only [PrimOp.sem, Instr.makeInterface, Sem.run_bind, al hu, Result.andThen_ok]
   cases d <;> first | rfl | exact absurd rfl (hni _)
  ·simp only [PrimOp.sem, Instr.makeInterface, Sem.run_bind, al hu, Result.andThen_ok]
   cases d <;> first | rfl | exact absurd rfl (hni _)
 refine ⟨H.insAll frz, [], O, fun v H' O' => v = .iface t x ∧ H' = H.insAll frz ∧ O' = [], Ghost.refl _ _, fun w F hm => ⟨_, w, H.insAll frz, [], hrun w, ⟨rfl, rfl, rfl⟩, Heap.le_refl _, by simpa using hm⟩, ?_⟩
 rintro v' H' O' ⟨rfl, rfl, rfl⟩ _
 exact ⟨[_], [], [], rfl, ⟨rfl, trivial⟩, trivial, rfl, hk _ hl hf⟩
theorem vn (r : Nat) (H : Heap) : Ret PP bh [.slice (some ⟨r, 0, none⟩) 3 3] H (.slice (some ⟨r, 0, none⟩) 3 3) := by
 refine cB (vs := [.slice (some ⟨r, 0, none⟩) 3 3]) (by kernel_rfl) ⟨rfl, trivial⟩ ?_
 simp only [be]
 exact aa (iV 3) rfl (aa (iV 3) rfl (aa (.slice (some ⟨r, 0, none⟩) 3 3) rfl (af ⟨rfl, rfl⟩)))
def DW (H : Heap) : Rl → Value → Prop
 | .no, r => r = .nilIface
 | .bare l, r => ∃ s, r = .iface 228 s ∧ Sl H 1 s (aN l)
 | .cnt l m, r => ∃ s, r = .iface 231 (.agg #[s, iV m]) ∧ Sl H 1 s (aN l)
 | .par l m, r => ∃ s, r = .iface 233 (.agg #[s, iV m]) ∧ Sl H 1 s (aN l)
 | .col l m, r => ∃ s, r = .iface 235 (.agg #[s, iV m]) ∧ Sl H 1 s (aN l)
def OfQ (c : Int) (r : Value) (H' : Heap) (O' : Go.Sx.Own) : Prop := DW H' (nG c) r ∧ O' = []
theorem Eh {H : Heap} {r : Nat} {T : TypeId} (h : H r = some (.cells [iV 1, iV 2, iV 3].toArray T (0, 0))) : Sl H 1 (.slice (some ⟨r, 0, none⟩) 3 3) (aN [1, 2, 3]) := Sl.block h ⟨rfl, rfl, rfl, trivial⟩ rfl (by decide)
theorem EN {H : Heap} {r : Nat} {T : TypeId} {a b : Int} (h : H r = some (.cells [iV a, iV b].toArray T (0, 0))) : Sl H 1 (.slice (some ⟨r, 0, none⟩) 2 2) (aN [a, b]) := Sl.block h ⟨rfl, rfl, trivial⟩ rfl (by decide)
theorem DO {H : Heap} {r : Nat} {T : TypeId} {a : Int} (h : H r = some (.cells [iV a].toArray T (0, 0))) : Sl H 1 (.slice (some ⟨r, 0, none⟩) 1 1) (aN [a]) := Sl.block h ⟨rfl, trivial⟩ rfl (by decide)
def zH : Option TypeDesc → Bool
 | none => false
 | some (.interface _) => false
 | some _ => true
theorem fX {o : Option TypeDesc} (h : zH o = true) : ∃ d, o = some d ∧ ∀ m, d ≠ .interface m := by
 cases o with
 | none => cases h
 | some d => exact ⟨d, rfl, fun m e => by rw [e] at h; cases h⟩
theorem EO : ∃ d, PP.underlying 228 = some d ∧ ∀ m, d ≠ .interface m := fX (by kernel_rfl)
theorem EX : ∃ d, PP.underlying 231 = some d ∧ ∀ m, d ≠ .interface m := fX (by kernel_rfl)
theorem E3 : ∃ d, PP.underlying 233 = some d ∧ ∀ m, d ≠ .interface m := fX (by kernel_rfl)
theorem Fj : ∃ d, PP.underlying 235 = some d ∧ ∀ m, d ≠ .interface m := fX (by kernel_rfl)
theorem EB {c : Int} {k : Bool} {r2 r0 : Nat} {H : Heap} (h1 : k = true → c = 5 ∨ c = 6 ∨ c = 11) (h2 : k = false → ¬ (c = 1 ∨ c = 2 ∨ c = 3 ∨ c = 4 ∨ c = 5 ∨ c = 6 ∨ c = 11)) : (eo (.bool k) r2 [iV c] r0).den PP (OfQ c) H [] := by
 simp only [eo]
 obtain ⟨d1, u1, n1⟩ := EO
 obtain ⟨d3, u3, n3⟩ := E3
 obtain ⟨d4, u4, n4⟩ := Fj
 refine ai (fun hk => ?_) (fun hk => ?_)
 ·refine gm u1 n1 (.inr ⟨rfl, rfl⟩) fun H1 l1 hf => ?_
  refine af ⟨?_, rfl⟩
  rw [nG, if_neg (by have := h1 hk; omega), if_neg (by have := h1 hk; omega), if_neg (by have := h1 hk; omega), if_pos (h1 hk)]
  exact ⟨_, rfl, Eh (hf _ List.mem_cons_self)⟩
 have hn := h2 hk
 refine aa _ (ao _ _) (ai (fun h => ?_) (fun h => ?_))
 ·have h : c = 7 := by simpa using h
  subst h
  refine aj fun r4 => ?_
  refine gm u1 n1 (.inr ⟨rfl, rfl⟩) fun H1 l1 hf => ?_
  exact af ⟨⟨_, rfl, DO (hf _ List.mem_cons_self)⟩, rfl⟩
 have n7 : c ≠ 7 := by simpa using h
 refine aa _ (ao _ _) (ai (fun h => ?_) (fun h => ?_))
 ·have h : c = 8 := by simpa using h
  subst h
  refine qp _ (fun Hf _ _ => vn r2 Hf) rfl ⟨rfl, trivial⟩ fun H1 l1 hf => ?_
  refine aj fun r5 => ?_
  refine fk (ad := ⟨r2, 0, none⟩) (rows := aN [1, 2, 3]) (news := aN [0]) (size := 1) (e := 108) (by kernel_rfl) (Eh (hf _ List.mem_cons_self)) (fun Hf _ hf2 => DO (hf2 _ List.mem_cons_self)) (by rw [show jF PP 108 = 8 by kernel_rfl]; decide) (by decide) fun v' H2 l2 hs => ?_
  exact af ⟨⟨_, rfl, hs⟩, rfl⟩
 have n8 : c ≠ 8 := by simpa using h
 refine aa _ (ao _ _) (ai (fun h => ?_) (fun h => ?_))
 ·have h : c = 9 := by simpa using h
  subst h
  refine qp _ (fun Hf _ _ => vn r2 Hf) rfl ⟨rfl, trivial⟩ fun H1 l1 hf => ?_
  refine aj fun r5 => ?_
  refine fk (ad := ⟨r2, 0, none⟩) (rows := aN [1, 2, 3]) (news := aN [0]) (size := 1) (e := 108) (by kernel_rfl) (Eh (hf _ List.mem_cons_self)) (fun Hf _ hf2 => DO (hf2 _ List.mem_cons_self)) (by rw [show jF PP 108 = 8 by kernel_rfl]; decide) (by decide) fun v' H2 l2 hs => ?_
  exact af ⟨⟨_, rfl, hs⟩, rfl⟩
 have n9 : c ≠ 9 := by simpa using h
 refine aa _ (ao _ _) (ai (fun h => ?_) (fun h => ?_))
 ·have h : c = 10 := by simpa using h
  subst h
  refine gm u3 n3 (.inl ⟨rfl, rfl⟩) fun H1 l1 hf => ?_
  exact af ⟨⟨_, rfl, DO (hf _ List.mem_cons_self)⟩, rfl⟩
 have n10 : c ≠ 10 := by simpa using h
 refine aa _ (ao _ _) (ai (fun h => ?_) (fun h => ?_))
 ·have h : c = 12 := by simpa using h
  subst h
  refine gm u4 n4 (.inl ⟨rfl, rfl⟩) fun H1 l1 hf => ?_
  exact af ⟨⟨_, rfl, DO (hf _ List.mem_cons_self)⟩, rfl⟩
 have n12 : c ≠ 12 := by simpa using h
 refine af ⟨?_, rfl⟩
 rw [nG, if_neg (by omega), if_neg (by omega), if_neg (by omega), if_neg (by omega), if_neg n7, if_neg n8, if_neg n9, if_neg n10, if_neg n12]
 rfl
theorem EW {c : Int} {k : Bool} {r1 r2 r0 : Nat} {H : Heap} (h1 : k = true → c = 3 ∨ c = 4) (h2 : k = false → ¬ (c = 1 ∨ c = 2 ∨ c = 3 ∨ c = 4)) : (gh (.bool k) r1 [iV c] r2 r0).den PP (OfQ c) H [] := by
 simp only [gh]
 obtain ⟨d2, u2, n2⟩ := EX
 refine ai (fun hk => ?_) (fun hk => ?_)
 ·refine gm u2 n2 (.inl ⟨rfl, rfl⟩) fun H1 l1 hf => ?_
  refine af ⟨?_, rfl⟩
  rw [nG, if_neg (by have := h1 hk; omega), if_neg (by have := h1 hk; omega), if_pos (h1 hk)]
  exact ⟨_, rfl, EN (hf _ List.mem_cons_self)⟩
 have hn := h2 hk
 refine aa _ (ao _ _) (ai (fun h => ?_) (fun h => ?_))
 ·have h' : c = 5 := by simpa using h
  exact EB (fun _ => .inl h') (fun e => by rw [h] at e; cases e)
 have n5 : c ≠ 5 := by simpa using h
 refine aa _ (ao _ _) (ai (fun h => ?_) (fun h => ?_))
 ·have h' : c = 6 := by simpa using h
  exact EB (fun _ => .inr (.inl h')) (fun e => by rw [h] at e; cases e)
 have n6 : c ≠ 6 := by simpa using h
 refine aa _ (ao _ _) ?_
 exact EB (fun e => .inr (.inr (by simpa using e))) (fun e => by have : c ≠ 11 := (by simpa using e); omega)
theorem Fo (c : Int) (H : Heap) : Triple PP qH [iV c] H [] (OfQ c) := by
 refine rN (vs := [iV c]) (by kernel_rfl) ⟨rfl, trivial⟩ ?_
 simp only [qA]
 obtain ⟨d2, u2, n2⟩ := EX
 refine aj fun r0 => aj fun r1 => aj fun r2 => ?_
 refine aa _ (ao _ _) (ai (fun h => ?_) (fun h => ?_))
 ·have h : c = 1 := by simpa using h
  subst h
  refine qp _ (fun Hf _ _ => vn r2 Hf) rfl ⟨rfl, trivial⟩ fun H1 l1 hf => ?_
  refine aj fun r5 => ?_
  refine fk (ad := ⟨r2, 0, none⟩) (rows := aN [1, 2, 3]) (news := aN [4, 5]) (size := 1) (e := 108) (by kernel_rfl) (Eh (hf _ List.mem_cons_self)) (fun Hf _ hf2 => EN (hf2 _ List.mem_cons_self)) (by rw [show jF PP 108 = 8 by kernel_rfl]; decide) (by decide) fun v' H2 l2 hs => ?_
  exact af ⟨⟨_, rfl, hs⟩, rfl⟩
 have n1 : c ≠ 1 := by simpa using h
 refine aa _ (ao _ _) (ai (fun h => ?_) (fun h => ?_))
 ·have h : c = 2 := by simpa using h
  subst h
  refine gm u2 n2 (.inl ⟨rfl, rfl⟩) fun H1 l1 hf => ?_
  exact af ⟨⟨_, rfl, EN (hf _ List.mem_cons_self)⟩, rfl⟩
 have n2' : c ≠ 2 := by simpa using h
 refine aa _ (ao _ _) (ai (fun h => ?_) (fun h => ?_))
 ·have h' : c = 3 := by simpa using h
  exact EW (fun _ => .inl h') (fun e => by rw [h] at e; cases e)
 have n3 : c ≠ 3 := by simpa using h
 refine aa _ (ao _ _) ?_
 exact EW (fun e => .inr (by simpa using e)) (fun e => by have : c ≠ 4 := (by simpa using e); omega)
theorem Aa {H : Heap} {O : Go.Sx.Own} {v : Value} {l : List Int} (h : RSl H O 1 v (l.map fun n => [I n])) (x : Int) : RetO PP a8 [v, I x] H O (I (zQ l x 0)) := by
 refine ck (vs := [v, I x]) (by kernel_rfl) ⟨h.one, rfl, trivial⟩ ?_
 simp only [a7]
 refine aa _ h.len ?_
 refine aJ l.length (fun i H' O' => O' = O ∧ Heap.le H H' ∧ zQ l x 0 = zQ (l.drop i) x i) ⟨rfl, Heap.le_refl H, by simp⟩ ?_
 rintro i H' O' hi - ⟨rfl, hle, hor⟩
 refine aa _ (av _ _) (ai (fun hb => ?_) (fun hb => ?_))
 ·have hlt : i < l.length := by simpa using hb
  obtain ⟨a, h1, h2, _, h3, h4⟩ := (h.le hle).idx .i64 i [I l[i]] (by simp [hlt])
  refine aa _ h1 (an h2 h3 h4 (aa _ (ao _ _) (ai (fun hb => ?_) (fun hb => ?_))))
  ·refine af ⟨?_, rfl⟩
   rw [hor, List.drop_eq_getElem_cons hlt, zQ, if_pos hb]; rfl
  ·refine aa _ (aw (by have := h.lenB; simp at this; omega)) (aA (by simp [Eqs, E]) hlt ⟨rfl, hle, ?_⟩)
   rw [hor, List.drop_eq_getElem_cons hlt, zQ, if_neg (by rw [hb]; simp)]; rfl
 ·have hge : l.length ≤ i := by simpa using hb
  refine af ⟨?_, rfl⟩
  rw [hor, List.drop_of_length_le hge]; rfl
theorem vj {H : Heap} {O : Go.Sx.Own} {v : Value} {l : List Int} (h : RSl H O 1 v (l.map fun n => [I n])) (x : Int) : RetO PP aP [v, I x] H O (.bool (l.contains x)) := by
 refine bV (vs := [v, I x]) (by kernel_rfl) ⟨h.one, rfl, trivial⟩ ?_
 simp only [aO]
 refine ak (Aa h x) rfl ⟨rfl, trivial⟩ fun H1 _ => aa _ (ie _ _) (af ⟨?_, rfl⟩)
 rw [← yB l x 0 (by omega)]
theorem B2 {H : Heap} {O : Go.Sx.Own} (p m : Int) : RetO PP qG [iV p, iV m] H O (iV (max 0 (min p m))) := by
 refine rL (vs := [iV p, iV m]) (by kernel_rfl) ⟨rfl, rfl, trivial⟩ ?_
 simp only [qz]
 exact aa _ (Bh _ _) (aa _ (Bn _ _) (af ⟨rfl, rfl⟩))
theorem mR (n lo hi : Int) (H : Heap) (O : Go.Sx.Own) : RetO PP lg [iV n, iV lo, iV hi] H O (.bool (inR n lo hi)) := by
 refine nj (vs := [iV n, iV lo, iV hi]) (by kernel_rfl) ⟨rfl, rfl, rfl, trivial⟩ ?_
 simp only [kY]
 refine aa _ (ie _ _) (ai (fun h => ?_) (fun h => ?_))
 ·refine ak (B2 n hi) rfl ⟨rfl, trivial⟩ fun H1 _ => aa _ (ao _ _) (af ⟨?_, rfl⟩)
  rw [inR, h, Bool.true_and]
 ·refine af ⟨?_, rfl⟩
  rw [inR, h, Bool.false_and]
theorem nz {H : Heap} {O : Go.Sx.Own} {s : Value} {l : List Int} (h : RSl H O 1 s (aN l)) (e : Eff) : RetO PP ez [s, .agg e.row.toArray] H O (.bool (Ed l e)) := by
 refine lC (vs := s :: e.row) (by kernel_rfl) ⟨h.one, iF e⟩ ?_
 simp only [io]
 refine aj fun r0 => ?_
 refine ae ?_
 refine ak (vj h e.target) rfl ⟨rfl, trivial⟩ fun H1 _ => ?_
 refine ae (ab (ab ?_))
 refine aa _ (ao _ _) ?_
 refine ab ?_
 refine aa _ (ar _ _) ?_
 refine ae (ab (ab ?_))
 refine aa _ (ao _ _) ?_
 refine ab ?_
 refine aa _ (ar _ _) ?_
 refine ae (ab (ab ?_))
 refine aa _ (ao _ _) ?_
 refine ab ?_
 refine aa _ (ar _ _) ?_
 exact af ⟨rfl, rfl⟩
theorem ue {H : Heap} {O : Go.Sx.Own} {s : Value} {l : List Int} (h : RSl H O 1 s (aN l)) (m : Int) (e : Eff) : RetO PP dh [.agg #[s, iV m], .agg e.row.toArray] H O (.bool (Dn l m e)) := by
 refine jo (vs := s :: iV m :: e.row) (by kernel_rfl) ⟨h.one, rfl, iF e⟩ ?_
 simp only [eY]
 refine aj fun r0 => aj fun r1 => ?_
 refine ae (ae (ae ?_))
 refine ak (mR e.n 1 m _ _) rfl ⟨rfl, trivial⟩ fun H1 l1 => ai (fun hb => ?_) (fun hb => ?_)
 ·refine ae (ae ?_)
  refine ak (nz (h.le l1) { e with n := 0 }) rfl ⟨rfl, trivial⟩ fun H2 _ => af ⟨?_, rfl⟩
  rw [Dn, hb, Bool.true_and]; rfl
 ·refine af ⟨?_, rfl⟩
  rw [Dn, hb, Bool.false_and]
theorem yV {H : Heap} {O : Go.Sx.Own} {s : Value} {l : List Int} (h : RSl H O 1 s (aN l)) {m : Int} (hm : 0 ≤ m) (e : Eff) : RetO PP dw [.agg #[s, iV m], .agg e.row.toArray] H O (.bool (Dm l m e)) := by
 refine j9 (vs := s :: iV m :: e.row) (by kernel_rfl) ⟨h.one, rfl, iF e⟩ ?_
 simp only [fG]
 refine aj fun r0 => aj fun r1 => ?_
 refine ae (ae (ae (ae ?_)))
 refine ak (mR e.n 0 9 _ _) rfl ⟨rfl, trivial⟩ fun H1 l1 => ai (fun hb => ?_) (fun hb => ?_)
 rotate_left
 ·refine af ⟨?_, rfl⟩
  rw [Dm, hb]; rfl
 refine ae ?_
 refine ak (mR e.m m 9 _ _) rfl ⟨rfl, trivial⟩ fun H2 l2 => ?_
 refine ab (ab ?_)
 have hw : ∃ z, ah (.bin .add .int) [iV e.n, iV e.m] = some (iV z) ∧ (inR e.m m 9 = true → z = e.n + e.m) := by
  refine ⟨IntKind.i64.wrap (e.n + e.m), rfl, fun hm9 => ?_⟩
  simp only [inR, Bool.and_eq_true, decide_eq_true_eq, beq_iff_eq] at hb hm9
  exact iu (by omega) (by omega)
 obtain ⟨z, hz, hze⟩ := hw
 refine aa _ hz ?_
 refine ab ?_
 refine aa _ (b7 _ _) ?_
 refine ab ?_
 refine aa _ (ar _ _) (ai (fun hc => ?_) (fun hc => ?_))
 ·rw [Bool.and_eq_true] at hc
  refine ae (ae ?_)
  refine ak (nz (h.le (Heap.le_trans l1 l2)) { e with n := 0, m := 0 }) rfl ⟨rfl, trivial⟩ fun H3 _ => af ⟨?_, rfl⟩
  rw [Dm, hb, hc.1, ← hze hc.1, hc.2]; rfl
 ·refine af ⟨?_, rfl⟩
  rw [Dm, hb, Bool.true_and]
  by_cases hm9 : inR e.m m 9 = true
  ·rw [hm9, Bool.true_and] at hc
   rw [hm9, ← hze hm9, Bool.true_and, hc]; rfl
  ·rw [show inR e.m m 9 = false by simpa using hm9]; rfl
theorem yW {H : Heap} {O : Go.Sx.Own} {s : Value} {l : List Int} (h : RSl H O 1 s (aN l)) (m : Int) (e : Eff) : RetO PP cI [.agg #[s, iV m], .agg e.row.toArray] H O (.bool (Ec l m e)) := by
 refine iQ (vs := s :: iV m :: e.row) (by kernel_rfl) ⟨h.one, rfl, iF e⟩ ?_
 simp only [eE]
 refine aj fun r0 => aj fun r1 => ?_
 refine ae (ae ?_)
 refine ak (mR e.colour 0 3 _ _) rfl ⟨rfl, trivial⟩ fun H1 l1 => ai (fun hb => ?_) (fun hb => ?_)
 ·refine ae (ae ?_)
  refine ak (ue (h.le l1) m { e with colour := 0 }) rfl ⟨rfl, trivial⟩ fun H2 _ => af ⟨?_, rfl⟩
  rw [Ec, hb, Bool.true_and]; rfl
 ·refine af ⟨?_, rfl⟩
  rw [Ec, hb, Bool.false_and]
theorem vS {t : TypeId} {v : Value} : ∀ w, ((PrimOp.eqv .neq 195 true).sem [.iface t v, .nilIface]).run PP w = .ok (.value (.bool true)) w := fun w => by kernel_rfl
theorem Bf : ∀ w, ((PrimOp.eqv .neq 195 true).sem [.nilIface, .nilIface]).run PP w = .ok (.value (.bool false)) w := fun w => by kernel_rfl
theorem zK (v : Value) : oq PP "zeitnot/effect.fits" (.iface 228 v) ez v := ⟨_, _, rfl, fun w => by kernel_rfl⟩
theorem Bm (v : Value) : oq PP "zeitnot/effect.fits" (.iface 231 v) dh v := ⟨_, _, rfl, fun w => by kernel_rfl⟩
theorem Bi (v : Value) : oq PP "zeitnot/effect.fits" (.iface 233 v) dw v := ⟨_, _, rfl, fun w => by kernel_rfl⟩
theorem Bj (v : Value) : oq PP "zeitnot/effect.fits" (.iface 235 v) cI v := ⟨_, _, rfl, fun w => by kernel_rfl⟩
theorem xQ {H : Heap} {R : Rl} {r : Value} (h : DW H R r) : r.oneCell' = true := by
 cases R with
 | no => rw [show r = .nilIface from h]; rfl
 | bare l => obtain ⟨s, rfl, _⟩ := h; rfl
 | cnt l m => obtain ⟨s, rfl, _⟩ := h; rfl
 | par l m => obtain ⟨s, rfl, _⟩ := h; rfl
 | col l m => obtain ⟨s, rfl, _⟩ := h; rfl
theorem A9 {c : Int} {l : List Int} {m : Int} (h : nG c = .par l m) : 0 ≤ m := by
 rw [nG] at h
 repeat' (split at h)
 all_goals first | (injection h with h1 h2; omega) | cases h
theorem xm (e : Eff) (H : Heap) : RetO PP lM [.agg e.row.toArray] H [] (.bool (Eg e)) := by
 refine oD (vs := e.row) (by kernel_rfl) (iF e) ?_
 simp only [lI]
 refine aj fun r0 => ?_
 refine ae ?_
 refine bj (Fo e.code H) ?_
 rintro r H1 _ ⟨hr, rfl⟩ l1
 refine ⟨[r], rfl, ⟨xQ hr, trivial⟩, ?_⟩
 have hpp := @A9 e.code
 rw [Eg]
 generalize nG e.code = R at hr hpp
 cases R with
 | no =>
  rw [show r = .nilIface from hr]
  refine ⟨_, fun _ => Bf, rfl, ai (fun hd => by cases hd) (fun _ => ?_)⟩
  exact af ⟨rfl, rfl⟩
 | bare l =>
  obtain ⟨s, rfl, hs⟩ := hr
  refine ⟨_, fun _ => vS, rfl, ai (fun _ => ?_) (fun hd => by cases hd)⟩
  refine ae ?_
  exact mQ (zK s) (iC jI (by decide)) (nz (hs.rsl []) e) rfl ⟨rfl, trivial⟩ fun H2 l2 => af ⟨rfl, rfl⟩
 | cnt l m =>
  obtain ⟨s, rfl, hs⟩ := hr
  refine ⟨_, fun _ => vS, rfl, ai (fun _ => ?_) (fun hd => by cases hd)⟩
  refine ae ?_
  exact mQ (Bm _) (iC jI (by decide)) (ue (hs.rsl []) m e) rfl ⟨rfl, trivial⟩ fun H2 l2 => af ⟨rfl, rfl⟩
 | par l m =>
  obtain ⟨s, rfl, hs⟩ := hr
  refine ⟨_, fun _ => vS, rfl, ai (fun _ => ?_) (fun hd => by cases hd)⟩
  refine ae ?_
  exact mQ (Bi _) (iC jI (by decide)) (yV (hs.rsl []) (hpp rfl) e) rfl ⟨rfl, trivial⟩ fun H2 l2 => af ⟨rfl, rfl⟩
 | col l m =>
  obtain ⟨s, rfl, hs⟩ := hr
  refine ⟨_, fun _ => vS, rfl, ai (fun _ => ?_) (fun hd => by cases hd)⟩
  refine ae ?_
  exact mQ (Bj _) (iC jI (by decide)) (yW (hs.rsl []) m e) rfl ⟨rfl, trivial⟩ fun H2 l2 => af ⟨rfl, rfl⟩
end Go.Proofs.YtamgiojcbdbokaaGreatDoor
