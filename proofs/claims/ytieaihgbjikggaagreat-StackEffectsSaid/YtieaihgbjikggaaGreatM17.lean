/- Cards with all that their effects say. Generic. -/
import Derived.Test.YtieaihgbjikggaaGreatM4
import Derived.Shelf.GgSortFunc.InsertionK
import Derived.Test.YtieaihgbjikggaaGreatTW
import Derived.Test.YtieaihgbjikggaaGreatC1
import Derived.Test.YtieaihgbjikggaaGreatFw3
namespace Go.Sx
open Go
structure Eff where
 (code target n m colour : Int)
deriving DecidableEq
def Eff.row (e : Eff) : List Value := [iV e.code, iV e.target, iV e.n, iV e.m, iV e.colour]
def efRows (l : List Eff) : List (List Value) := l.map Eff.row
theorem efRows_len (l : List Eff) : (efRows l).length = l.length := by simp [efRows]
theorem efRows_get {l : List Eff} {i : Nat} (h : i < l.length) : (efRows l)[i]? = some l[i].row := by simp [efRows, h]
theorem ef_ones (e : Eff) : Ones e.row := ⟨rfl, rfl, rfl, rfl, rfl, trivial⟩
structure CdX where
 kind : Int
 effs : List Eff
 trs : List (List Eff)
def CdX.base (c : CdX) : Cd := ⟨c.kind, c.effs.map (·.target), c.trs.map List.length⟩
def TrsX (H : Heap) (v : Value) (trs : List (List Eff)) : Prop := ∃ rows, Sl H 2 v rows ∧ rows.length = trs.length ∧ ∀ (i : Nat) (r : List Value) (l : List Eff), rows[i]? = some r → trs[i]? = some l → Sl H 5 (g r 1) (efRows l)
structure CdRX (H : Heap) (r : List Value) (c : CdX) : Prop where
 kind : g r 1 = iV c.kind
 eff : Sl H 5 (g r 11) (efRows c.effs)
 trig : TrsX H (g r 12) c.trs
def CardsX (H : Heap) (v : Value) (cs : List CdX) : Prop := ∃ rows, Sl H 14 v rows ∧ rows.length = cs.length ∧ ∀ (i : Nat) (r : List Value) (c : CdX), rows[i]? = some r → cs[i]? = some c → CdRX H r c
theorem TrsX.le {H H' : Heap} {v : Value} {l : List (List Eff)} (h : TrsX H v l) (hl : Heap.le H H') : TrsX H' v l := let ⟨rows, h1, h2, h3⟩ := h; ⟨rows, h1.le hl, h2, fun i r n a b => (h3 i r n a b).le hl⟩
theorem CdRX.le {H H' : Heap} {r : List Value} {c : CdX} (h : CdRX H r c) (hl : Heap.le H H') : CdRX H' r c := ⟨h.kind, h.eff.le hl, h.trig.le hl⟩
theorem CardsX.le {H H' : Heap} {v : Value} {cs : List CdX} (h : CardsX H v cs) (hl : Heap.le H H') : CardsX H' v cs := let ⟨rows, h1, h2, h3⟩ := h; ⟨rows, h1.le hl, h2, fun i r c a b => (h3 i r c a b).le hl⟩
theorem effs_base {H : Heap} {v : Value} {l : List Eff} (h : Sl H 5 v (efRows l)) : EffsS H v (l.map (·.target)) := by
 refine ⟨_, h, by simp [efRows], fun i r t a b => ?_⟩
 have hi : i < l.length := by
  have := (List.getElem?_eq_some_iff.1 a).1
  simpa [efRows] using this
 rw [efRows_get hi] at a
 rw [List.getElem?_map, List.getElem?_eq_getElem hi] at b
 obtain rfl := Option.some.inj a
 obtain rfl := Option.some.inj b
 rfl
theorem CdRX.base {H : Heap} {r : List Value} {c : CdX} (h : CdRX H r c) : CdR H r c.base := by
 refine ⟨h.kind, effs_base h.eff, ?_⟩
 obtain ⟨rows, h1, h2, h3⟩ := h.trig
 refine ⟨rows, h1, by simp [CdX.base, h2], fun i r n a b => ?_⟩
 have hi : i < c.trs.length := by
  have := (List.getElem?_eq_some_iff.1 a).1
  omega
 simp only [CdX.base] at b
 rw [List.getElem?_map, List.getElem?_eq_getElem hi] at b
 obtain rfl := Option.some.inj b
 exact ⟨_, h3 i r _ a (List.getElem?_eq_getElem hi), efRows_len _⟩
theorem CardsX.base {H : Heap} {v : Value} {cs : List CdX} (h : CardsX H v cs) : CardsS H v (cs.map CdX.base) := by
 obtain ⟨rows, h1, h2, h3⟩ := h
 refine ⟨rows, h1, by simp [h2], fun i r c a b => ?_⟩
 have hi : i < cs.length := by
  have := (List.getElem?_eq_some_iff.1 a).1
  omega
 rw [List.getElem?_map, List.getElem?_eq_getElem hi] at b
 obtain rfl := Option.some.inj b
 exact (h3 i r _ a (List.getElem?_eq_getElem hi)).base
theorem CardsX.one {H : Heap} {v : Value} {cs : List CdX} (h : CardsX H v cs) : v.oneCell' = true := let ⟨_, h1, _⟩ := h; h1.one
theorem CardsX.len {H : Heap} {v : Value} {cs : List CdX} (h : CardsX H v cs) : evalPure .len [v] = some (iV cs.length) := by
 obtain ⟨rows, h1, h2, _⟩ := h
 have := h1.len; rwa [h2] at this
def zCdX : CdX := ⟨0, [], []⟩
def cdX (cs : List CdX) (c : Int) : CdX := if c < 0 ∨ c ≥ (cs.length : Int) then zCdX else cs.getD c.toNat zCdX
theorem cdX_base (cs : List CdX) (c : Int) : (cdX cs c).base = cdAt (cs.map CdX.base) c := by
 rw [cdX, cdAt]
 by_cases h : c < 0 ∨ c ≥ (cs.length : Int)
 ·rw [if_pos h, if_pos (by simpa using h)]; rfl
 ·rw [if_neg h, if_neg (by simpa using h)]
  simp only [List.getD_eq_getElem?_getD, List.getElem?_map]
  cases cs[c.toNat]? <;> rfl
/-- The effects of an item. -/
def effX (cs : List CdX) (card trig : Int) : List Eff :=
 if trig = -1 then (cdX cs card).effs else if trig < 0 ∨ trig ≥ ((cdX cs card).trs.length : Int) then [] else (cdX cs card).trs.getD trig.toNat []
theorem wrap_succ (n : Int) : IntKind.i64.wrap (n + 1) ≠ n := by
 intro h
 unfold IntKind.wrap at h
 simp [IntKind.bits, IntKind.signed] at h
 split at h <;> omega
end Go.Sx
namespace Go.Sx
open Go
end Go.Sx
namespace Go.Sx
open Go
def tgs (l : List Int) : List Tg := l.map fun n => ⟨n, 0⟩
def tRows (l : List Tg) : List (List Value) := l.map Tg.row
theorem tRows_len (a : List Tg) : (tRows a).length = a.length := by simp [tRows]
end Go.Sx
namespace Go.Proofs.YtieaihgbjikggaaGreat
open Go Go.Sx Go.ChangeShapes Go.WideShapes Go.ChangeAt Go.RowKit
set_option maxRecDepth 100000
set_option maxHeartbeats 1000000
theorem leavesEff : leaves PP 5 56 = some [53, 48, 3, 3, 54] := by kernel_rfl
theorem read_effX {H : Heap} {v : Value} (h : Leaf PP H 51 v) : ∃ l, Sl H 5 v (efRows l) := by
 obtain ⟨rows, hs, n, hw⟩ := h.slice Tryz.underlying51
 have hc : PP.cellsOf 56 = 5 := by kernel_rfl
 rw [hc] at hs
 obtain ⟨l, rfl⟩ := map_of (f := Eff.row) (rows := rows) fun r hr => by
  have hl := sl_row hs hr
  obtain ⟨x0, e0, _⟩ := (leaf_at leavesEff (hw r hr) 0 _ rfl).int Tryz.underlying53
  obtain ⟨x1, e1, _⟩ := (leaf_at leavesEff (hw r hr) 1 _ rfl).int Tryz.underlying48
  obtain ⟨x2, e2⟩ := leaf_int (leaf_at leavesEff (hw r hr) 2 3 rfl)
  obtain ⟨x3, e3⟩ := leaf_int (leaf_at leavesEff (hw r hr) 3 3 rfl)
  obtain ⟨x4, e4, _⟩ := (leaf_at leavesEff (hw r hr) 4 _ rfl).int Tryz.underlying54
  match r, hl with
  | [_, _, _, _, _], _ =>
   refine ⟨⟨x0, x1, x2, x3, x4⟩, ?_⟩
   simp only [g, List.getD_cons_zero, List.getD_cons_succ] at e0 e1 e2 e3 e4
   rw [e0, e1, e2, e3, e4]; rfl
 exact ⟨l, hs⟩
theorem read_trigX {H : Heap} {v : Value} (h : Leaf PP H 84 v) : ∃ tr, TrsX H v tr := by
 obtain ⟨rows, hs, n, hw⟩ := h.slice Tryz.underlying84
 have hc : PP.cellsOf 89 = 2 := by kernel_rfl
 rw [hc] at hs
 obtain ⟨ls, hls, h1⟩ := Option.bind_eq_some_iff.1 trig_effs
 obtain ⟨tr, e1, e2⟩ := pick_rows (R := fun r (l : List Eff) => Sl H 5 (g r 1) (efRows l)) (rows := rows) fun r hr => read_effX (leaf_at hls (hw r hr) 1 _ h1)
 exact ⟨tr, rows, hs, e1, e2⟩
theorem read_cardsX {H : Heap} {v : Value} (h : Leaf PP H 22 v) : ∃ cs, CardsX H v cs := by
 obtain ⟨rows, hs, n, hw⟩ := h.slice Tryz.underlying22
 have hc : PP.cellsOf 86 = 14 := by kernel_rfl
 rw [hc] at hs
 obtain ⟨ls, hls, h1⟩ := Option.bind_eq_some_iff.1 card_cells.1.1
 obtain ⟨ls2, hls2, h2⟩ := Option.bind_eq_some_iff.1 card_cells.1.2
 obtain ⟨ls3, hls3, h3⟩ := Option.bind_eq_some_iff.1 card_cells.2
 obtain rfl := Option.some.inj (hls.symm.trans hls2)
 obtain rfl := Option.some.inj (hls.symm.trans hls3)
 obtain ⟨cs, e1, e2⟩ := pick_rows (R := fun r (c : CdX) => CdRX H r c) (rows := rows) fun r hr => by
  obtain ⟨k, e, _⟩ := (leaf_at hls (hw r hr) 1 _ h1).int Tryz.underlying80
  obtain ⟨l, ht⟩ := read_effX (leaf_at hls (hw r hr) 11 _ h2)
  obtain ⟨tr, hr⟩ := read_trigX (leaf_at hls (hw r hr) 12 _ h3)
  exact ⟨⟨k, l, tr⟩, e, ht, hr⟩
 exact ⟨cs, rows, hs, e1, e2⟩
theorem read_itemL {H : Heap} {cs : List Value} (hl : cs.length = 5) (a : ∀ i l, ([3, 3, 3, 3, 39] : List TypeId)[i]? = some l → Leaf PP H l (g cs i)) : ∃ (x : It) (s : Value), cs = [iV x.player, iV x.id, iV x.card, iV x.trig, s] ∧ Sl H 2 s (tRows x.tgs) := by
 obtain ⟨x0, e0⟩ := leaf_int (a 0 3 rfl)
 obtain ⟨x1, e1⟩ := leaf_int (a 1 3 rfl)
 obtain ⟨x2, e2⟩ := leaf_int (a 2 3 rfl)
 obtain ⟨x3, e3⟩ := leaf_int (a 3 3 rfl)
 obtain ⟨trows, ts, m, tw⟩ := (a 4 _ rfl).slice Tryz.underlying39
 have hc2 : PP.cellsOf 43 = 2 := by kernel_rfl
 rw [hc2] at ts
 obtain ⟨tl, rfl⟩ := map_of (f := Tg.row) (rows := trows) fun r hr => by
  obtain ⟨x, y, e⟩ := read_two leavesTg (tw r hr) (sl_row ts hr)
  exact ⟨⟨x, y⟩, e⟩
 match cs, hl with
 | [_, _, _, _, s], _ =>
  refine ⟨⟨x0, x1, x2, x3, tl⟩, s, ?_, ?_⟩
  ·simp only [g, List.getD_cons_zero, List.getD_cons_succ] at e0 e1 e2 e3
   rw [e0, e1, e2, e3]
  ·simpa [g, tRows] using ts
end Go.Proofs.YtieaihgbjikggaaGreat
namespace Go.Proofs.YtieaihgbjikggaaGreat
open Go Go.Sx
set_option maxRecDepth 100000
set_option maxHeartbeats 1000000
def seatOf (b : Bd) (p : Int) : St := if p = 0 then b.s0 else b.s1
def withSeat (b : Bd) (p : Int) (s : St) : Bd := if p = 0 then { b with s0 := s } else { b with s1 := s }
def putZ (s : St) (z id : Int) : St :=
 if z = 0 then { s with lib := s.lib ++ [id] } else if z = 1 then { s with hand := s.hand ++ [id] } else if z = 2 then { s with field := s.field ++ [id] } else if z = 3 then { s with grave := s.grave ++ [id] } else s
def putB (b : Bd) (p z id : Int) : Bd := withSeat b p (putZ (seatOf b p) z id)
end Go.Proofs.YtieaihgbjikggaaGreat
namespace Go.Proofs.YtieaihgbjikggaaGreat
open Go Go.Sx
set_option maxRecDepth 100000
set_option maxHeartbeats 1000000
abbrev i64 (n : Int) : Prop := -9223372036854775808 ≤ n ∧ n ≤ 9223372036854775807
theorem ob_ones (o : Ob) : Ones o.row := ⟨rfl, rfl, rfl, rfl, rfl, rfl, rfl, rfl, rfl, rfl, rfl, rfl, trivial⟩
end Go.Proofs.YtieaihgbjikggaaGreat
namespace Go.Proofs.YtieaihgbjikggaaGreat
open Go Go.Sx
set_option maxRecDepth 100000
set_option maxHeartbeats 1000000
theorem OwnB.perm {t : Tys} {w : BV12} {b : Bd} {O O' : Own} (h : OwnB t w b O) (hp : O'.Perm O) : OwnB t w b O' :=
 let ⟨Oo, A0, B0, C0, D0, A1, B1, C1, D1, Os, Oq, Oa, Obk, hq, h⟩ := h
 ⟨Oo, A0, B0, C0, D0, A1, B1, C1, D1, Os, Oq, Oa, Obk, hp.trans hq, h⟩
theorem OwnB.zero (t : Tys) : OwnB t nilV zBd [] :=
 ⟨[], [], [], [], [], [], [], [], [], [], [], [], [], List.Perm.refl _, OSl.nil _ _, OSl.nil _ _, OSl.nil _ _, OSl.nil _ _, OSl.nil _ _, OSl.nil _ _, OSl.nil _ _, OSl.nil _ _, OSl.nil _ _,
  ⟨[], [], [], List.Perm.refl _, OSl.nil _ _, rfl, rfl, fun i r x T h => by simp at h⟩, ⟨[], [], [], List.Perm.refl _, OSl.nil _ _, rfl, rfl, fun i r x T h => by simp at h⟩, OSl.nil _ _, OSl.nil _ _⟩
end Go.Proofs.YtieaihgbjikggaaGreat
namespace Go.Proofs.YtieaihgbjikggaaGreat
open Go Go.Sx
set_option maxRecDepth 100000
set_option maxHeartbeats 1000000
end Go.Proofs.YtieaihgbjikggaaGreat
namespace Go.Proofs.YtieaihgbjikggaaGreat
open Go Go.Sx
set_option maxRecDepth 100000
set_option maxHeartbeats 1000000
theorem ret_sub {P : Program} {v : Value} {H : Heap} {O O' Y : Own} {Q : Value → Heap → Own → Prop} (hp : O.Perm (O' ++ Y)) (h : Q v H O') : (Tree.ret v []).den P Q H O :=
 fun _ => ⟨H, O', (Ghost.perm (by simpa using hp)).trans (Ghost.sub (List.sublist_append_left _ _)), h⟩
end Go.Proofs.YtieaihgbjikggaaGreat
namespace Go.Proofs.YtieaihgbjikggaaGreat
open Go Go.Sx
set_option maxRecDepth 100000
set_option maxHeartbeats 1000000
end Go.Proofs.YtieaihgbjikggaaGreat
namespace Go.Proofs.YtieaihgbjikggaaGreat
open Go Go.Sx
set_option maxRecDepth 100000
set_option maxHeartbeats 1000000
end Go.Proofs.YtieaihgbjikggaaGreat
namespace Go.Sx
open Go
abbrev Mem := List (Nat × Option Bx)
abbrev Dec (α : Type) := List At → Option (List Ck × α)
def dI : At → Option Int
 | .k (.int .i64 n) => some n
 | _ => none
def dB : At → Option Bool
 | .k (.bool b) => some b
 | _ => none
theorem dI_eq {a : At} {n : Int} (h : dI a = some n) : a = .k (iV n) := by
 unfold dI at h
 split at h
 ·cases h; rfl
 ·cases h
theorem dB_eq {a : At} {n : Bool} (h : dB a = some n) : a = .k (.bool n) := by
 unfold dB at h
 split at h
 ·cases h; rfl
 ·cases h
def rowsD {α : Type} (size : Nat) (dec : Dec α) : Nat → List At → Option (List Ck × List α)
 | 0, _ => some ([], [])
 | n + 1, cs =>
  match dec (cs.take size) with
  | none => none
  | some (k, a) => match rowsD size dec n (cs.drop size) with
   | none => none
   | some (k', l) => some (k ++ k', a :: l)
def slD {α : Type} (mem : Mem) (size : Nat) (dec : Dec α) : At → Option (List Ck × List α)
 | .k (.slice none 0 0) => some ([], [])
 | .sl n r off len _ =>
  match lookB mem n with
  | some (some b) => if (Nat.ble (off + len * size) b.cs.length && Nat.blt len 4611686018427387904) = true then
    match rowsD size dec len (b.cs.drop off) with
    | some (k, l) => some (.eqN r b.r :: k, l)
    | none => none
   else none
  | _ => none
 | _ => none
def DecOk {α : Type} (size : Nat) (dec : Dec α) (Rl : List Value → α → Prop) : Prop :=
 ∀ cs k a, dec cs = some (k, a) → AllCk k → cs.length = size ∧ cs.all At.known = true ∧ Rl (cs.map At.den) a ∧ Ones (cs.map At.den)
theorem rowsD_ok {α : Type} {size : Nat} {dec : Dec α} {Rl : List Value → α → Prop} (hd : DecOk size dec Rl) : ∀ {n : Nat} {cs : List At} {vs : List Value} {k : List Ck} {l : List α}, rowsD size dec n cs = some (k, l) → AllCk k → CellsRel cs vs →
  l.length = n ∧ ∀ (i : Nat) (a : α), l[i]? = some a → Rl ((vs.drop (i * size)).take size) a ∧ Ones ((vs.drop (i * size)).take size) ∧ ((vs.drop (i * size)).take size).length = size
 | 0, cs, vs, k, l, h, _, _ => by
  simp only [rowsD, Option.some.injEq, Prod.mk.injEq] at h
  obtain ⟨_, rfl⟩ := h
  exact ⟨rfl, fun i a h => by simp at h⟩
 | n + 1, cs, vs, k, l, h, hk, hr => by
  simp only [rowsD] at h
  split at h
  ·cases h
  ·rename_i k1 a h1
   split at h
   ·cases h
   ·rename_i k2 l' h2
    simp only [Option.some.injEq, Prod.mk.injEq] at h
    obtain ⟨rfl, rfl⟩ := h
    rw [AllCk.append] at hk
    obtain ⟨d1, d2, d3, d4⟩ := hd _ _ _ h1 hk.1
    have e : vs.take size = (cs.take size).map At.den := (hr.take size).known d2
    obtain ⟨i1, i2⟩ := rowsD_ok hd h2 hk.2 (hr.drop size)
    refine ⟨by simp [i1], fun i a' hi => ?_⟩
    cases i with
    | zero =>
     simp only [List.getElem?_cons_zero, Option.some.injEq] at hi
     subst hi
     rw [Nat.zero_mul, List.drop_zero, e]
     exact ⟨d3, d4, by rw [List.length_map, d1]⟩
    | succ i =>
     have := i2 i a' (by simpa using hi)
     rw [List.drop_drop] at this
     rw [show (i + 1) * size = size + i * size by rw [Nat.add_mul]; omega]
     exact this
theorem slD_ok {α : Type} {mem : Mem} {size : Nat} {dec : Dec α} {Rl : List Value → α → Prop} (hd : DecOk size dec Rl) {x : At} {k : List Ck} {l : List α} (h : slD mem size dec x = some (k, l)) (hk : AllCk k) {L : Own} (hB : Boxes (fun n => (lookB mem n).getD none) L) (H : Heap) :
  x.known = true ∧ ∃ rows, RSl H L size x.den rows ∧ rows.length = l.length ∧ ∀ (i : Nat) (r : List Value) (a : α), rows[i]? = some r → l[i]? = some a → Rl r a := by
 unfold slD at h
 split at h
 ·simp only [Option.some.injEq, Prod.mk.injEq] at h
  obtain ⟨_, rfl⟩ := h
  exact ⟨rfl, [], (Sl.nil H size).rsl L, rfl, fun i r a h => by simp at h⟩
 ·rename_i n r off len cap
  split at h
  ·rename_i b hb
   split at h
   ·rename_i hc
    split at h
    ·rename_i k' l' hrow
     simp only [Option.some.injEq, Prod.mk.injEq] at h
     obtain ⟨rfl, rfl⟩ := h
     obtain ⟨hr, hk'⟩ := hk
     have hr : r = b.r := hr
     subst hr
     rw [Bool.and_eq_true] at hc
     have hfit : off + len * size ≤ b.cs.length := Nat.le_of_ble_eq_true hc.1
     have hlen : len < 4611686018427387904 := Nat.le_of_ble_eq_true hc.2
     obtain ⟨vs, L', hrel, hp, _⟩ := hB.take (n := n) (b := b) (by simp [hb])
     have hvl := hrel.length
     obtain ⟨l1, l2⟩ := rowsD_ok hd hrow hk' (hrel.drop off)
     refine ⟨rfl, (List.range len).map fun i => ((vs.drop off).drop (i * size)).take size, ⟨rfl, ?_, ?_, ?_⟩, by simp [l1], ?_⟩
     ·simp [At.den, evalPure, goInt]
     ·simp; omega
     ·intro kd i row hi
      have hlt : i < len := by
       have := (List.getElem?_eq_some_iff.1 hi).1
       simpa using this
      have hrowi : ((vs.drop off).drop (i * size)).take size = row := by
       rw [List.getElem?_map, List.getElem?_range hlt] at hi
       simpa using hi
      have hli : l'[i]? = some l'[i] := List.getElem?_eq_getElem (by omega)
      obtain ⟨q1, q2, q3⟩ := l2 i _ hli
      rw [hrowi] at q1 q2 q3
      have hmem : (b.r, Obj.cells vs.toArray b.T (0, 0)) ∈ L := hp.mem_iff.2 (by simp)
      refine ⟨⟨b.r, off + i * size, none⟩, ?_, .inr ⟨_, vs.toArray, b.T, rfl, rfl, hmem, ?_, q3⟩, fun o m hle => .inr ⟨⟨b.r, off + i * size + o, none⟩, vs.toArray, b.T, ?_, rfl, hmem, ?_, ?_⟩, q3, q2⟩
      ·simp only [At.den, evalPure, evalIdx]
       rw [if_pos ⟨by omega, by omega⟩, add_none]
       simp
      ·rw [← hrowi, List.drop_drop]
      ·show Value.pointer (some ((⟨b.r, off + i * size, none⟩ : Addr).add o)) = _
       rw [add_none]
      ·rw [← hrowi, List.drop_drop, List.drop_take, List.take_take, Nat.min_eq_left (by omega), List.drop_drop]
      ·rw [List.length_take, List.length_drop, q3]; omega
     ·intro i r a hi ha
      have hlt : i < len := by
       have := (List.getElem?_eq_some_iff.1 hi).1
       simpa using this
      rw [List.getElem?_map, List.getElem?_range hlt] at hi
      have hi : ((vs.drop off).drop (i * size)).take size = r := by simpa using hi
      rw [← hi]
      exact (l2 i a ha).1
    ·cases h
   ·cases h
  ·cases h
 ·cases h
/-- Rows that are just those of the data. -/
theorem slD_map {α : Type} {mem : Mem} {size : Nat} {dec : Dec α} {row : α → List Value} (hd : DecOk size dec fun r a => r = row a) {x : At} {k : List Ck} {l : List α} (h : slD mem size dec x = some (k, l)) (hk : AllCk k) {L : Own} (hB : Boxes (fun n => (lookB mem n).getD none) L) (H : Heap) :
  RSl H L size x.den (l.map row) := by
 obtain ⟨_, rows, h1, h2, h3⟩ := slD_ok hd h hk hB H
 have : rows = l.map row := by
  refine List.ext_getElem (by simp [h2]) fun i a b => ?_
  have := h3 i rows[i] l[i] (List.getElem?_eq_getElem a) (List.getElem?_eq_getElem (by omega))
  rw [this]; simp
 rw [← this]; exact h1
def decInt : Dec Int
 | [a] => match dI a with | some n => some ([], n) | none => none
 | _ => none
theorem decInt_ok : DecOk 1 decInt fun r n => r = [iV n] := by
 intro cs k a h _
 unfold decInt at h
 split at h
 ·split at h
  ·rename_i n hn
   simp only [Option.some.injEq, Prod.mk.injEq] at h
   obtain ⟨_, rfl⟩ := h
   obtain rfl := dI_eq hn
   exact ⟨rfl, rfl, rfl, rfl, trivial⟩
  ·cases h
 ·cases h
def decTwo {α : Type} (f : Int → Int → α) : Dec α
 | [a, b] => match dI a, dI b with | some n, some m => some ([], f n m) | _, _ => none
 | _ => none
theorem decTwo_ok {α : Type} {f : Int → Int → α} {row : α → List Value} (hf : ∀ n m, row (f n m) = [iV n, iV m]) : DecOk 2 (decTwo f) fun r a => r = row a := by
 intro cs k a h _
 unfold decTwo at h
 split at h
 ·split at h
  ·rename_i n m hn hm
   simp only [Option.some.injEq, Prod.mk.injEq] at h
   obtain ⟨_, rfl⟩ := h
   obtain rfl := dI_eq hn
   obtain rfl := dI_eq hm
   exact ⟨rfl, rfl, (hf n m).symm, rfl, rfl, trivial⟩
  ·cases h
 ·cases h
def decOb : Dec Ob
 | [a0, a1, a2, a3, a4, a5, a6, a7, a8, b0, b1, b2] =>
  (dI a0).bind fun n0 => (dI a1).bind fun n1 => (dI a2).bind fun n2 => (dI a3).bind fun n3 => (dI a4).bind fun n4 => (dI a5).bind fun n5 => (dI a6).bind fun n6 => (dI a7).bind fun n7 => (dI a8).bind fun n8 => (dB b0).bind fun m0 => (dB b1).bind fun m1 => (dB b2).bind fun m2 => some ([], ⟨n0, n1, n2, n3, n4, n5, n6, n7, n8, m0, m1, m2⟩)
 | _ => none
theorem decOb_ok : DecOk 12 decOb fun r o => r = Ob.row o := by
 intro cs k a h _
 unfold decOb at h
 split at h
 ·simp only [Option.bind_eq_some_iff, Option.some.injEq, Prod.mk.injEq] at h
  obtain ⟨n0, e0, n1, e1, n2, e2, n3, e3, n4, e4, n5, e5, n6, e6, n7, e7, n8, e8, m0, f0, m1, f1, m2, f2, _, rfl⟩ := h
  obtain rfl := dI_eq e0
  obtain rfl := dI_eq e1
  obtain rfl := dI_eq e2
  obtain rfl := dI_eq e3
  obtain rfl := dI_eq e4
  obtain rfl := dI_eq e5
  obtain rfl := dI_eq e6
  obtain rfl := dI_eq e7
  obtain rfl := dI_eq e8
  obtain rfl := dB_eq f0
  obtain rfl := dB_eq f1
  obtain rfl := dB_eq f2
  exact ⟨rfl, rfl, rfl, rfl, rfl, rfl, rfl, rfl, rfl, rfl, rfl, rfl, rfl, rfl, rfl, trivial⟩
 ·cases h
def decIt (mem : Mem) : Dec It
 | [a0, a1, a2, a3, s] => (dI a0).bind fun n0 => (dI a1).bind fun n1 => (dI a2).bind fun n2 => (dI a3).bind fun n3 => (slD mem 2 (decTwo Tg.mk) s).bind fun t => some (t.1, ⟨n0, n1, n2, n3, t.2⟩)
 | _ => none
theorem decTg_ok : DecOk 2 (decTwo Tg.mk) fun r t => r = Tg.row t := decTwo_ok fun _ _ => rfl
theorem decBl_ok : DecOk 2 (decTwo Bl.mk) fun r t => r = Bl.row t := decTwo_ok fun _ _ => rfl
theorem decIt_ok {mem : Mem} {L : Own} (hB : Boxes (fun n => (lookB mem n).getD none) L) (H : Heap) : DecOk 5 (decIt mem) fun r x => ItR H L r x := by
 intro cs k a h hk
 unfold decIt at h
 split at h
 ·simp only [Option.bind_eq_some_iff, Option.some.injEq, Prod.mk.injEq] at h
  obtain ⟨n0, e0, n1, e1, n2, e2, n3, e3, t, e4, rfl, rfl⟩ := h
  obtain rfl := dI_eq e0
  obtain rfl := dI_eq e1
  obtain rfl := dI_eq e2
  obtain rfl := dI_eq e3
  have hs := slD_map decTg_ok e4 hk hB H
  have hkn := (slD_ok decTg_ok e4 hk hB H).1
  exact ⟨rfl, by rw [List.all_cons, List.all_cons, List.all_cons, List.all_cons, List.all_cons, hkn]; rfl, ⟨_, rfl, hs⟩, rfl, rfl, rfl, rfl, hs.one, trivial⟩
 ·cases h
theorem slD_its {mem : Mem} {x : At} {k : List Ck} {l : List It} (h : slD mem 5 (decIt mem) x = some (k, l)) (hk : AllCk k) {L : Own} (hB : Boxes (fun n => (lookB mem n).getD none) L) (H : Heap) : ItsR H L x.den l := by
 obtain ⟨_, rows, h1, h2, h3⟩ := slD_ok (decIt_ok hB H) h hk hB H
 exact ⟨rows, h1, h2, h3⟩
def dBd (mem : Mem) : List At → Option (List Ck × BV12 × Bd)
 | a0 :: a1 :: a2 :: a3 :: a4 :: a5 :: a6 :: a7 :: a8 :: a9 :: a10 :: a11 :: a12 :: a13 :: a14 :: a15 :: a16 :: a17 :: a18 :: a19 :: a20 :: a21 :: a22 :: a23 :: a24 :: a25 :: a26 :: a27 :: a28 :: a29 :: a30 :: a31 :: a32 :: a33 :: a34 :: a35 :: a36 :: a37 :: [] =>
  (slD mem 12 decOb a0).bind fun n0 => (dI a1).bind fun n1 => (dI a2).bind fun n2 => (dI a3).bind fun n3 => (dI a4).bind fun n4 => (dI a5).bind fun n5 => (slD mem 1 decInt a6).bind fun n6 => (slD mem 1 decInt a7).bind fun n7 => (slD mem 1 decInt a8).bind fun n8 => (slD mem 1 decInt a9).bind fun n9 => (dB a10).bind fun n10 => (dB a11).bind fun n11 => (dB a12).bind fun n12 => (dI a13).bind fun n13 => (dI a14).bind fun n14 => (dI a15).bind fun n15 => (dI a16).bind fun n16 => (dI a17).bind fun n17 => (dI a18).bind fun n18 => (dI a19).bind fun n19 => (slD mem 1 decInt a20).bind fun n20 => (slD mem 1 decInt a21).bind fun n21 => (slD mem 1 decInt a22).bind fun n22 => (slD mem 1 decInt a23).bind fun n23 => (dB a24).bind fun n24 => (dB a25).bind fun n25 => (dB a26).bind fun n26 => (dI a27).bind fun n27 => (dI a28).bind fun n28 => (slD mem 5 (decIt mem) a29).bind fun n29 => (slD mem 5 (decIt mem) a30).bind fun n30 => (slD mem 1 decInt a31).bind fun n31 => (slD mem 2 (decTwo Bl.mk) a32).bind fun n32 => (dI a33).bind fun n33 => (dI a34).bind fun n34 => (dI a35).bind fun n35 => (dI a36).bind fun n36 => (dI a37).bind fun n37 => 
   some (n0.1 ++ (n6.1 ++ (n7.1 ++ (n8.1 ++ (n9.1 ++ (n20.1 ++ (n21.1 ++ (n22.1 ++ (n23.1 ++ (n29.1 ++ (n30.1 ++ (n31.1 ++ (n32.1)))))))))))), ⟨a0.den, a6.den, a7.den, a8.den, a9.den, a20.den, a21.den, a22.den, a23.den, a29.den, a30.den, a31.den, a32.den⟩, ⟨n0.2, ⟨n1, n2, n3, n4, n5, n6.2, n7.2, n8.2, n9.2, n10, n11, n12, n13, n14⟩, ⟨n15, n16, n17, n18, n19, n20.2, n21.2, n22.2, n23.2, n24, n25, n26, n27, n28⟩, n29.2, n30.2, n31.2, n32.2, n33, n34, n35, n36, n37⟩)
 | _ => none
theorem dBd_ok {mem : Mem} {l : List At} {k : List Ck} {v : BV12} {b : Bd} (h : dBd mem l = some (k, v, b)) (hk : AllCk k) {L : Own} (hB : Boxes (fun n => (lookB mem n).getD none) L) (H : Heap) : l.map At.den = boardC v b ∧ BdR H L v b := by
 unfold dBd at h
 split at h
 ·simp only [Option.bind_eq_some_iff, Option.some.injEq, Prod.mk.injEq] at h
  obtain ⟨n0, e0, n1, e1, n2, e2, n3, e3, n4, e4, n5, e5, n6, e6, n7, e7, n8, e8, n9, e9, n10, e10, n11, e11, n12, e12, n13, e13, n14, e14, n15, e15, n16, e16, n17, e17, n18, e18, n19, e19, n20, e20, n21, e21, n22, e22, n23, e23, n24, e24, n25, e25, n26, e26, n27, e27, n28, e28, n29, e29, n30, e30, n31, e31, n32, e32, n33, e33, n34, e34, n35, e35, n36, e36, n37, e37, rfl, rfl, rfl⟩ := h
  simp only [AllCk.append] at hk
  obtain ⟨c0, c6, c7, c8, c9, c20, c21, c22, c23, c29, c30, c31, c32⟩ := hk
  obtain rfl := dI_eq e1
  obtain rfl := dI_eq e2
  obtain rfl := dI_eq e3
  obtain rfl := dI_eq e4
  obtain rfl := dI_eq e5
  obtain rfl := dB_eq e10
  obtain rfl := dB_eq e11
  obtain rfl := dB_eq e12
  obtain rfl := dI_eq e13
  obtain rfl := dI_eq e14
  obtain rfl := dI_eq e15
  obtain rfl := dI_eq e16
  obtain rfl := dI_eq e17
  obtain rfl := dI_eq e18
  obtain rfl := dI_eq e19
  obtain rfl := dB_eq e24
  obtain rfl := dB_eq e25
  obtain rfl := dB_eq e26
  obtain rfl := dI_eq e27
  obtain rfl := dI_eq e28
  obtain rfl := dI_eq e33
  obtain rfl := dI_eq e34
  obtain rfl := dI_eq e35
  obtain rfl := dI_eq e36
  obtain rfl := dI_eq e37
  exact ⟨rfl, ⟨slD_map decOb_ok e0 c0 hB H, ⟨slD_map decInt_ok e6 c6 hB H, slD_map decInt_ok e7 c7 hB H, slD_map decInt_ok e8 c8 hB H, slD_map decInt_ok e9 c9 hB H⟩, ⟨slD_map decInt_ok e20 c20 hB H, slD_map decInt_ok e21 c21 hB H, slD_map decInt_ok e22 c22 hB H, slD_map decInt_ok e23 c23 hB H⟩, slD_its e29 c29 hB H, slD_its e30 c30 hB H, slD_map decInt_ok e31 c31 hB H, slD_map decBl_ok e32 c32 hB H⟩⟩
 ·cases h
/-- A function of one board that hands back a bool. -/
def sumB (fv : Nat) (val : Bd → Bool) : SumF := fun f args mem _ =>
 if Nat.beq f fv = true then
  match args with
  | [.agg l] => match dBd mem l with
   | some (k, _, b) => some (k, .s (.at (.k (.bool (val b)))))
   | none => none
  | _ => none
 else none
theorem sumB_ok {P : Program} {ok : FuncId → Bool} {fv : Nat} {val : Bd → Bool} (hc : ∀ (H : Heap) (O : Own) (v : BV12) (b : Bd), BdR H O v b → RetO P fv [.agg (boardC v b).toArray] H O (.bool (val b))) (H : Heap) : SumOk P ok H (sumB fv val) := by
 intro f args mem h cs sv _ hs hck
 unfold sumB at hs
 split at hs
 ·rename_i hf
  have hf : f = fv := Nat.eq_of_beq_eq_true hf
  subst hf
  split at hs
  ·rename_i l
   split at hs
   ·rename_i k v b hd
    simp only [Option.some.injEq, Prod.mk.injEq] at hs
    obtain ⟨rfl, rfl⟩ := hs
    refine ⟨ok_k _, fun F w next _ hm => ?_⟩
    obtain ⟨L, O, hB, hok, hM, hmod, hfr⟩ := hm
    obtain ⟨h1, h2⟩ := dBd_ok hd hck hB H
    have hret := Triple.frame (hc H L v b h2) O
    have e : (([S1.agg l] : List S1).map S1.den).toArray = [Value.agg (boardC v b).toArray].toArray := by simp [S1.den, h1]
    rw [e]
    refine (hret w F (by simpa using hmod)).mono ?_
    rintro e' w' ⟨v', H', O', he, ⟨O'', q1, q2, q3⟩, hle, hm'⟩
    rw [q1, q3] at hm'
    exact ⟨v', he, q2, L, O, hB, hok, hM, by simpa using hm'.less hle, hfr⟩
   ·cases hs
  ·cases hs
 ·cases hs
end Go.Sx
