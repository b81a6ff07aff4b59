/- The reference's equality of boards. -/
import Derived.Test.YtjaegdkkiefchaaGreatDoorC3
import Derived.Test.YtjaegdkkiefchaaGreatDoorFw2
namespace Go.Proofs.YtjaegdkkiefchaaGreatDoor
open Go Go.Sx
set_option maxRecDepth 100000
set_option maxHeartbeats 1000000

theorem raw_denG {P : Program} {gd : Gd} {op : PrimOp} {args : List Value} {k : Value → Tree} {H : Heap} {O : Own} {Q : Value → Heap → Own → Prop} {v : Value} (h : rawE P op args = some v) (hk : (k v).den P Q H O) :
    (Tree.raw gd op args k).den P Q H O := ⟨v, fun _ w => (rawE_run h w).1, (rawE_run h default).2, hk⟩
def chain : List Bool → Option Bool
  | [] => some true
  | b :: r => match some b with | some true => chain r | some false => some false | none => none
theorem chain_all : ∀ l : List Bool, chain l = some (l.all id)
  | [] => rfl
  | true :: r => by simp [chain, chain_all r]
  | false :: r => by simp [chain]
theorem obEq (o p : Ob) : rawE PP (.eqv .neq Ty_api_Object false) [.agg o.row.toArray, .agg p.row.toArray] = some (.bool (!(o == p))) := by
  have e : rawE PP (.eqv .neq Ty_api_Object false) [.agg o.row.toArray, .agg p.row.toArray] = (chain [o.id == p.id, o.card == p.card, o.owner == p.owner, o.power == p.power, o.tough == p.tough, o.dmg == p.dmg, o.cnt == p.cnt, o.pp == p.pp, o.pt == p.pt, o.tap == p.tap, o.sick == p.sick, o.doom == p.doom]).map fun b => .bool (!b) := by kernel_rfl
  rw [e, chain_all]
  simp only [Option.map_some, Option.some.injEq, Value.bool.injEq]
  congr 1
  cases o; cases p
  rw [Bool.eq_iff_iff]
  simp
theorem tgEq (o p : Tg) : rawE PP (.eqv .neq Ty_api_Target false) [.agg o.row.toArray, .agg p.row.toArray] = some (.bool (!(o == p))) := by
  have e : rawE PP (.eqv .neq Ty_api_Target false) [.agg o.row.toArray, .agg p.row.toArray] = (chain [o.id == p.id, o.player == p.player]).map fun b => .bool (!b) := by kernel_rfl
  rw [e, chain_all]
  simp only [Option.map_some, Option.some.injEq, Value.bool.injEq]
  congr 1
  cases o; cases p
  rw [Bool.eq_iff_iff]
  simp
theorem blEq (o p : Bl) : rawE PP (.eqv .neq Ty_api_Block false) [.agg o.row.toArray, .agg p.row.toArray] = some (.bool (!(o == p))) := by
  have e : rawE PP (.eqv .neq Ty_api_Block false) [.agg o.row.toArray, .agg p.row.toArray] = (chain [o.blocker == p.blocker, o.attacker == p.attacker]).map fun b => .bool (!b) := by kernel_rfl
  rw [e, chain_all]
  simp only [Option.map_some, Option.some.injEq, Value.bool.injEq]
  congr 1
  cases o; cases p
  rw [Bool.eq_iff_iff]
  simp
theorem manaEq (a b c d a' b' c' d' : Int) : rawE PP (.eqv .neq Ty_api_Mana false) [.agg #[iV a, iV b, iV c, iV d], .agg #[iV a', iV b', iV c', iV d']] = some (.bool (!(a == a' && (b == b' && (c == c' && d == d'))))) := by
  have e : rawE PP (.eqv .neq Ty_api_Mana false) [.agg #[iV a, iV b, iV c, iV d], .agg #[iV a', iV b', iV c', iV d']] = (chain [a == a', b == b', c == c', d == d']).map fun b => .bool (!b) := by kernel_rfl
  rw [e, chain_all]
  simp

theorem r_Ints {H : Heap} {O : Own} {v v' : Value} {l l' : List Int} (h : RSl H O 1 v (ints l)) (h' : RSl H O 1 v' (ints l')) : RetO PP F_zeitnotref15_Ints [v, v'] H O (.bool (l == l')) := by
  refine run_zeitnotref15_Ints (vs := [v, v']) (by kernel_rfl) ⟨h.one, h'.one, trivial⟩ ?_
  simp only [T_zeitnotref15_Ints]
  have hl := h.len
  have hl' := h'.len
  rw [ints, List.length_map] at hl hl'
  refine pure_den _ hl (pure_den _ hl' (pure_den _ (neq_eq _ _) (br_den (fun hb => ret_denO ⟨?_, rfl⟩) (fun hb => ?_))))
  · have : l ≠ l' := by intro e; subst e; simp at hb
    simp [this]
  · have hlen : l.length = l'.length := by simp at hb; omega
    refine count_den l.length (fun i H' O' => O' = O ∧ Heap.le H H' ∧ l.take i = l'.take i) ⟨rfl, Heap.le_refl H, by simp⟩ ?_
    rintro i H' O' hi - ⟨rfl, hle, hor⟩
    refine pure_den _ hl (pure_den _ (lss_eq _ _) (br_den (fun hb => ?_) (fun hb => ?_)))
    · have hlt : i < l.length := by simpa using hb
      have hlt' : i < l'.length := by omega
      obtain ⟨a, h1, h2, _, h3, h4⟩ := (h.le hle).idx .i64 i [iV l[i]] (by simp [ints, hlt])
      obtain ⟨b, k1, k2, _, k3, k4⟩ := (h'.le hle).idx .i64 i [iV l'[i]] (by simp [ints, hlt'])
      refine pure_den _ h1 (load_denR h2 h3 h4 (pure_den _ k1 (load_denR k2 k3 k4 (pure_den _ (neq_eq _ _) (br_den (fun hb => ret_denO ⟨?_, rfl⟩) (fun hb => ?_))))))
      · have hne : l[i] ≠ l'[i] := by simpa using hb
        have : l ≠ l' := by rintro rfl; exact hne rfl
        simp [this]
      · have he : l[i] = l'[i] := by simpa using hb
        refine pure_den _ (add_one (by have := h.lenB; simp [ints] at this; omega)) (count_cont (by simp [Eqs, E]) hlt ⟨rfl, hle, ?_⟩)
        rw [List.take_add_one, List.take_add_one, hor, List.getElem?_eq_getElem hlt, List.getElem?_eq_getElem hlt', he]
    · have hge : l.length ≤ i := by simpa using hb
      refine ret_denO ⟨?_, rfl⟩
      rw [List.take_of_length_le hge, List.take_of_length_le (by omega)] at hor
      simp [hor]
theorem r_SameItem {H : Heap} {O : Own} {row row' : List Value} {x y : It} (h : ItR H O row x) (h' : ItR H O row' y) : RetO PP F_zeitnotref15_SameItem [.agg row.toArray, .agg row'.toArray] H O (.bool (x == y)) := by
  obtain ⟨s, rfl, hs⟩ := h
  obtain ⟨s', rfl, hs'⟩ := h'
  refine run_zeitnotref15_SameItem (vs := [iV x.player, iV x.id, iV x.card, iV x.trig, s, iV y.player, iV y.id, iV y.card, iV y.trig, s']) (by kernel_rfl) ⟨rfl, rfl, rfl, rfl, hs.one, rfl, rfl, rfl, rfl, hs'.one, trivial⟩ ?_
  simp only [T_zeitnotref15_SameItem]
  have hl := hs.len
  have hl' := hs'.len
  rw [List.length_map] at hl hl'
  repeat (first | refine chkN_den ?_ | refine chkV_den ?_ | refine newbox_den fun _ => ?_ | refine pure_den _ hl ?_ | refine pure_den _ hl' ?_ | refine pure_den _ (neq_eq _ _) ?_ | refine pure_den _ (pick_or _ _) ?_)
  refine br_den (fun hb => ret_denO ⟨?_, rfl⟩) (fun hb => ?_)
  · have : x ≠ y := by rintro rfl; simp at hb
    simp [this]
  · simp only [Bool.or_eq_false_iff, bne_eq_false_iff_eq] at hb
    obtain ⟨⟨⟨⟨h1, h2⟩, h3⟩, h4⟩, h5⟩ := hb
    have hlen : x.tgs.length = y.tgs.length := by omega
    have hxy : (x == y) = (x.tgs == y.tgs) := by
      rw [Bool.eq_iff_iff]
      cases x; cases y
      simp only at h1 h2 h3 h4
      subst h1; subst h2; subst h3; subst h4
      simp
    rw [hxy]
    refine count_den x.tgs.length (fun i H' O' => O' = O ∧ Heap.le H H' ∧ x.tgs.take i = y.tgs.take i) ⟨rfl, Heap.le_refl H, by simp⟩ ?_
    rintro i H' O' hi - ⟨rfl, hle, hor⟩
    refine chkN_den (pure_den _ hl (pure_den _ (lss_eq _ _) (br_den (fun hb => ?_) (fun hb => ?_))))
    · have hlt : i < x.tgs.length := by simpa using hb
      have hlt' : i < y.tgs.length := by omega
      obtain ⟨a, h1, h2, _, h3, h4⟩ := (hs.le hle).idx .i64 i (Tg.row x.tgs[i]) (by simp [hlt])
      obtain ⟨b, k1, k2, _, k3, k4⟩ := (hs'.le hle).idx .i64 i (Tg.row y.tgs[i]) (by simp [hlt'])
      refine chkN_den (pure_den _ h1 (load_denR h2 h3 h4 (chkN_den (pure_den _ k1 (load_denR k2 k3 k4 (raw_denG (tgEq x.tgs[i] y.tgs[i]) (br_den (fun hb => ret_denO ⟨?_, rfl⟩) (fun hb => ?_))))))))
      · have hne : x.tgs[i] ≠ y.tgs[i] := by simpa using hb
        have : x.tgs ≠ y.tgs := fun e => hne (by simp only [e])
        simp [this]
      · have he : x.tgs[i] = y.tgs[i] := by simpa using hb
        refine pure_den _ (add_one (by have := hs.lenB; simp at this; omega)) (count_cont (by simp [Eqs, E]) hlt ⟨rfl, hle, ?_⟩)
        rw [List.take_add_one, List.take_add_one, hor, List.getElem?_eq_getElem hlt, List.getElem?_eq_getElem hlt', he]
    · have hge : x.tgs.length ≤ i := by simpa using hb
      refine ret_denO ⟨?_, rfl⟩
      rw [List.take_of_length_le hge, List.take_of_length_le (by omega)] at hor
      simp [hor]
theorem r_items {H : Heap} {O : Own} {v v' : Value} {l l' : List It} (h : ItsR H O v l) (h' : ItsR H O v' l') : RetO PP F_zeitnotref15_items [v, v'] H O (.bool (l == l')) := by
  have ho := ItsR.one h
  have ho' := ItsR.one h'
  have hl := ItsR.len h
  have hl' := ItsR.len h'
  obtain ⟨rows, hr, hrl, hit⟩ := h
  obtain ⟨rows', hr', hrl', hit'⟩ := h'
  refine run_zeitnotref15_items (vs := [v, v']) (by kernel_rfl) ⟨ho, ho', trivial⟩ ?_
  simp only [T_zeitnotref15_items]
  refine pure_den _ hl (pure_den _ hl' (pure_den _ (neq_eq _ _) (br_den (fun hb => ret_denO ⟨?_, rfl⟩) (fun hb => ?_))))
  · have : l ≠ l' := by intro e; subst e; simp at hb
    simp [this]
  · have hlen : l.length = l'.length := by simp at hb; omega
    refine count_den l.length (fun i H' O' => O' = O ∧ Heap.le H H' ∧ l.take i = l'.take i) ⟨rfl, Heap.le_refl H, by simp⟩ ?_
    rintro i H' O' hi - ⟨rfl, hle, hor⟩
    refine pure_den _ hl (pure_den _ (lss_eq _ _) (br_den (fun hb => ?_) (fun hb => ?_)))
    · have hlt : i < l.length := by simpa using hb
      have hlt' : i < l'.length := by omega
      have hx := (hit i rows[i] l[i] (by simp [hrl, hlt]) (by simp [hlt])).le hle
      have hy := (hit' i rows'[i] l'[i] (by simp [hrl', hlt']) (by simp [hlt'])).le hle
      obtain ⟨a, h1, h2, _, h3, h4⟩ := (hr.le hle).idx .i64 i rows[i] (by simp [hrl, hlt])
      obtain ⟨b, k1, k2, _, k3, k4⟩ := (hr'.le hle).idx .i64 i rows'[i] (by simp [hrl', hlt'])
      have hc := r_SameItem hx hy
      obtain ⟨s, hrow, _⟩ := hx
      obtain ⟨s', hrow', _⟩ := hy
      rw [hrow] at h2 h3 h4 hc
      rw [hrow'] at k2 k3 k4 hc
      refine pure_den _ h1 (load_denR h2 h3 h4 (pure_den _ k1 (load_denR k2 k3 k4 (call_retO hc rfl ⟨rfl, trivial⟩ fun H2 hle2 => pure_den _ (not_eq' _) (br_den (fun hb => ret_denO ⟨?_, rfl⟩) (fun hb => ?_))))))
      · have hne : l[i] ≠ l'[i] := by simpa using hb
        have : l ≠ l' := by rintro rfl; exact hne rfl
        simp [this]
      · have he : l[i] = l'[i] := by simpa using hb
        refine pure_den _ (add_one (by have := hr.lenB; omega)) (count_cont (by simp [Eqs, E]) hlt ⟨rfl, Heap.le_trans hle hle2, ?_⟩)
        rw [List.take_add_one, List.take_add_one, hor, List.getElem?_eq_getElem hlt, List.getElem?_eq_getElem hlt', he]
    · have hge : l.length ≤ i := by simpa using hb
      refine ret_denO ⟨?_, rfl⟩
      rw [List.take_of_length_le hge, List.take_of_length_le (by omega)] at hor
      simp [hor]

/-- A seat's four lists. -/
theorem r_Zones {vl vh vf vg : Value} (s : St) (hl : vl.oneCell' = true) (hh : vh.oneCell' = true) (hf : vf.oneCell' = true) (hg : vg.oneCell' = true) (H : Heap) (O : Own) :
    RetO PP F_zeitnotref15_Zones [.agg (seatC vl vh vf vg s).toArray] H O (.agg #[vl, vh, vf, vg]) := by
  refine run_zeitnotref15_Zones (vs := seatC vl vh vf vg s) (by kernel_rfl) ⟨rfl, rfl, rfl, rfl, rfl, hl, hh, hf, hg, rfl, rfl, rfl, rfl, rfl, trivial⟩ ?_
  simp only [T_zeitnotref15_Zones]
  repeat (first | refine chkN_den ?_ | refine chkV_den ?_ | refine newbox_den fun _ => ?_ | refine pure_den _ (lss_eq _ _) ?_ | refine pure_den _ (gtr_eq _ _) ?_ | refine pure_den _ (leq_eq _ _) ?_ | refine pure_den _ (geq_eq _ _) ?_ | refine pure_den _ (eql_eq _ _) ?_ | refine pure_den _ (neq_eq _ _) ?_ | refine pure_den _ (pick_and _ _) ?_ | refine pure_den _ (pick_or _ _) ?_ | refine pure_den _ (not_eq' _) ?_ | refine pure_den _ (beql_eq _ _) ?_ | refine pure_den _ (bneq_eq _ _) ?_)
  exact ret_denO ⟨rfl, rfl⟩
theorem stR_ones {H : Heap} {O : Own} {vl vh vf vg : Value} {s : St} (h : StR H O vl vh vf vg s) : vl.oneCell' = true ∧ vh.oneCell' = true ∧ vf.oneCell' = true ∧ vg.oneCell' = true := ⟨h.lib.one, h.hand.one, h.field.one, h.grave.one⟩
theorem boardC_ones {H : Heap} {O : Own} {v : BV12} {b : Bd} (h : BdR H O v b) : Ones (boardC v b) := by
  obtain ⟨a1, a2, a3, a4⟩ := stR_ones h.s0
  obtain ⟨b1, b2, b3, b4⟩ := stR_ones h.s1
  exact ⟨h.objs.one, rfl, rfl, rfl, rfl, rfl, a1, a2, a3, a4, rfl, rfl, rfl, rfl, rfl, rfl, rfl, rfl, rfl, rfl, b1, b2, b3, b4, rfl, rfl, rfl, rfl, rfl, ItsR.one h.stack, ItsR.one h.queue, h.att.one, h.blocks.one, rfl, rfl, rfl, rfl, rfl, trivial⟩
theorem ones_app : ∀ {a b : List Value}, Ones a → Ones b → Ones (a ++ b)
  | [], _, _, h => h
  | _ :: _, _, h, h' => ⟨h.1, ones_app h.2 h'⟩
/-- Are the numbers of two seats the same? -/
def stPlain (s t : St) : Bool :=
  !((((((((s.life != t.life || !(s.p0 == t.p0 && (s.p1 == t.p1 && (s.p2 == t.p2 && s.p3 == t.p3)))) || !(s.empty == t.empty)) || !(s.played == t.played)) || !(s.kept == t.kept)) || s.mull != t.mull) || s.acts != t.acts)))
theorem stEq (s t : St) : (s == t) = (stPlain s t && (s.lib == t.lib && (s.hand == t.hand && (s.field == t.field && s.grave == t.grave)))) := by
  cases s; cases t
  rw [Bool.eq_iff_iff]
  simp [stPlain]
  constructor
  · rintro ⟨h1, h2, h3, h4, h5, h6, h7, h8, h9, h10, h11, h12, h13, h14⟩; simp_all
  · rintro ⟨⟨⟨⟨⟨⟨⟨h1, h2, h3, h4, h5⟩, h6⟩, h7⟩, h8⟩, h9⟩, h10⟩, h11, h12, h13, h14⟩; simp_all
def bdPlain (a b : Bd) : Bool := a.turn == b.turn && (a.active == b.active && (a.phase == b.phase && (a.holder == b.holder && a.passes == b.passes)))
theorem bdEq (a b : Bd) : (a == b) = (a.stack == b.stack && (a.queue == b.queue && (a.att == b.att && (bdPlain a b && (a.objs == b.objs && (a.blocks == b.blocks && (a.s0 == b.s0 && a.s1 == b.s1))))))) := by
  cases a; cases b
  rw [Bool.eq_iff_iff]
  simp [bdPlain]
  constructor
  · rintro ⟨h1, h2, h3, h4, h5, h6, h7, h8, h9, h10, h11, h12⟩; simp_all
  · rintro ⟨h1, h2, h3, ⟨h4, h5, h6, h7, h8⟩, h9, h10, h11, h12⟩; simp_all

theorem neB {α : Type} [BEq α] [LawfulBEq α] {a b : α} (h : a ≠ b) : (Value.bool false : Value) = .bool (a == b) := by simp [h]
theorem r_Same {H : Heap} {O : Own} {v w : BV12} {a b : Bd} (h : BdR H O v a) (h' : BdR H O w b) : RetO PP F_zeitnotref15_Same [.agg (boardC v a).toArray, .agg (boardC w b).toArray] H O (.bool (a == b)) := by
  refine run_zeitnotref15_Same (vs := boardC v a ++ boardC w b) (by kernel_rfl) (ones_app (boardC_ones h) (boardC_ones h')) ?_
  simp only [T_zeitnotref15_Same]
  have lo := h.objs.len
  have lo' := h'.objs.len
  have lb := h.blocks.len
  have lb' := h'.blocks.len
  rw [List.length_map] at lo lo' lb lb'
  refine newbox_den fun r0 => newbox_den fun r1 => chkN_den (pure_den _ lo (chkN_den (pure_den _ lo' (pure_den _ (neq_eq _ _) (br_den (fun hb => ret_denO ⟨neB (by rintro rfl; simp at hb), rfl⟩) (fun hob => ?_))))))
  refine chkN_den (chkN_den (call_retO (r_items h.stack h'.stack) rfl ⟨rfl, trivial⟩ fun H1 l1 => pure_den _ (not_eq' _) (br_den (fun hb => ret_denO ⟨neB (by rintro rfl; simp at hb), rfl⟩) (fun hstack => ?_))))
  replace h := h.le l1
  replace h' := h'.le l1
  refine chkN_den (chkN_den (call_retO (r_items h.queue h'.queue) rfl ⟨rfl, trivial⟩ fun H2 l2 => pure_den _ (not_eq' _) (br_den (fun hb => ret_denO ⟨neB (by rintro rfl; simp at hb), rfl⟩) (fun hqueue => ?_))))
  replace h := h.le l2
  replace h' := h'.le l2
  refine chkN_den (chkN_den (call_retO (r_Ints h.att h'.att) rfl ⟨rfl, trivial⟩ fun H3 l3 => pure_den _ (not_eq' _) ?_))
  replace h := h.le l3
  replace h' := h'.le l3
  repeat (first | refine chkN_den ?_ | refine chkV_den ?_ | refine pure_den _ lb ?_ | refine pure_den _ lb' ?_ | refine pure_den _ (neq_eq _ _) ?_ | refine pure_den _ (pick_or _ _) ?_)
  refine br_den (fun hb => ret_denO ⟨neB (by rintro rfl; simp at hb), rfl⟩) (fun hpl => ?_)
  have hol : a.objs.length = b.objs.length := by simp at hob; omega
  -- objects
  refine count_den a.objs.length (fun i H' O' => O' = O ∧ Heap.le H3 H' ∧ a.objs.take i = b.objs.take i) ⟨rfl, Heap.le_refl H3, by simp⟩ ?_
  rintro i H4 O' hi - ⟨rfl, l4, hor⟩
  refine chkN_den (pure_den _ lo (pure_den _ (lss_eq _ _) (br_den (fun hb => ?_) (fun hb => ?_))))
  · have hlt : i < a.objs.length := by simpa using hb
    have hlt' : i < b.objs.length := by omega
    obtain ⟨p, h1, h2, _, h3, h4⟩ := (h.objs.le l4).idx .i64 i (Ob.row a.objs[i]) (by simp [hlt])
    obtain ⟨q, k1, k2, _, k3, k4⟩ := (h'.objs.le l4).idx .i64 i (Ob.row b.objs[i]) (by simp [hlt'])
    refine chkN_den (pure_den _ h1 (load_denR h2 h3 h4 (chkN_den (pure_den _ k1 (load_denR k2 k3 k4 (raw_denG (obEq a.objs[i] b.objs[i]) (br_den (fun hb => ret_denO ⟨?_, rfl⟩) (fun hb => ?_))))))))
    · have hne : a.objs[i] ≠ b.objs[i] := by simpa using hb
      exact neB fun e => hne (by simp only [e])
    · have he : a.objs[i] = b.objs[i] := by simpa using hb
      refine pure_den _ (add_one (by have := h.objs.lenB; simp at this; omega)) (count_cont (by simp [Eqs, E]) hlt ⟨rfl, l4, ?_⟩)
      rw [List.take_add_one, List.take_add_one, hor, List.getElem?_eq_getElem hlt, List.getElem?_eq_getElem hlt', he]
  have hobj : a.objs = b.objs := by
    have hge : a.objs.length ≤ i := by simpa using hb
    rwa [List.take_of_length_le hge, List.take_of_length_le (by omega)] at hor
  clear hb hor hi
  replace h := h.le l4
  replace h' := h'.le l4
  have hbl : a.blocks.length = b.blocks.length := by simp at hpl; omega
  -- blocks
  refine count_den a.blocks.length (fun i H' O'' => O'' = O' ∧ Heap.le H4 H' ∧ a.blocks.take i = b.blocks.take i) ⟨rfl, Heap.le_refl H4, by simp⟩ ?_
  rintro i H5 O' hi - ⟨rfl, l5, hor⟩
  refine chkN_den (pure_den _ lb (pure_den _ (lss_eq _ _) (br_den (fun hb => ?_) (fun hb => ?_))))
  · have hlt : i < a.blocks.length := by simpa using hb
    have hlt' : i < b.blocks.length := by omega
    obtain ⟨p, h1, h2, _, h3, h4⟩ := (h.blocks.le l5).idx .i64 i (Bl.row a.blocks[i]) (by simp [hlt])
    obtain ⟨q, k1, k2, _, k3, k4⟩ := (h'.blocks.le l5).idx .i64 i (Bl.row b.blocks[i]) (by simp [hlt'])
    refine chkN_den (pure_den _ h1 (load_denR h2 h3 h4 (chkN_den (pure_den _ k1 (load_denR k2 k3 k4 (raw_denG (blEq a.blocks[i] b.blocks[i]) (br_den (fun hb => ret_denO ⟨?_, rfl⟩) (fun hb => ?_))))))))
    · have hne : a.blocks[i] ≠ b.blocks[i] := by simpa using hb
      exact neB fun e => hne (by simp only [e])
    · have he : a.blocks[i] = b.blocks[i] := by simpa using hb
      refine pure_den _ (add_one (by have := h.blocks.lenB; simp at this; omega)) (count_cont (by simp [Eqs, E]) hlt ⟨rfl, l5, ?_⟩)
      rw [List.take_add_one, List.take_add_one, hor, List.getElem?_eq_getElem hlt, List.getElem?_eq_getElem hlt', he]
  have hblk : a.blocks = b.blocks := by
    have hge : a.blocks.length ≤ i := by simpa using hb
    rwa [List.take_of_length_le hge, List.take_of_length_le (by omega)] at hor
  clear hb hor hi
  replace h := h.le l5
  replace h' := h'.le l5
  -- seats
  obtain ⟨o1, o2, o3, o4⟩ := stR_ones h.s0
  obtain ⟨o1', o2', o3', o4'⟩ := stR_ones h'.s0
  obtain ⟨p1, p2, p3, p4⟩ := stR_ones h.s1
  obtain ⟨p1', p2', p3', p4'⟩ := stR_ones h'.s1
  repeat (first | refine chkN_den ?_ | refine chkV_den ?_ | refine newbox_den fun _ => ?_ | refine pure_den _ (neq_eq _ _) ?_ | refine raw_denG (manaEq _ _ _ _ _ _ _ _) ?_ | refine pure_den _ (bneq_eq _ _) ?_ | refine pure_den _ (pick_or _ _) ?_)
  refine br_den (fun hb => ret_denO ⟨neB (by rintro rfl; simp at hb), rfl⟩) (fun hs0 => ?_)
  refine chkN_den (chkN_den (call_retO (r_Zones a.s0 o1 o2 o3 o4 _ _) rfl ⟨o1, o2, o3, o4, trivial⟩ fun H6 l6 => call_retO (r_Zones b.s0 o1' o2' o3' o4' _ _) rfl ⟨o1', o2', o3', o4', trivial⟩ fun H7 l7 => ?_))
  replace h := (h.le l6).le l7
  replace h' := (h'.le l6).le l7
  refine newbox_den fun _ => newbox_den fun _ => chkN_den (chkN_den (chkN_den (chkN_den (call_retO (r_Ints h.s0.lib h'.s0.lib) rfl ⟨rfl, trivial⟩ fun H8 l8 => pure_den _ (not_eq' _) (br_den (fun hb => ret_denO ⟨neB (by rintro rfl; simp at hb), rfl⟩) (fun hz1 => ?_))))))
  replace h := h.le l8
  replace h' := h'.le l8
  refine chkN_den (chkN_den (call_retO (r_Ints h.s0.hand h'.s0.hand) rfl ⟨rfl, trivial⟩ fun H9 l9 => pure_den _ (not_eq' _) (br_den (fun hb => ret_denO ⟨neB (by rintro rfl; simp at hb), rfl⟩) (fun hz2 => ?_))))
  replace h := h.le l9
  replace h' := h'.le l9
  refine chkN_den (chkN_den (call_retO (r_Ints h.s0.field h'.s0.field) rfl ⟨rfl, trivial⟩ fun H10 l10 => pure_den _ (not_eq' _) (br_den (fun hb => ret_denO ⟨neB (by rintro rfl; simp at hb), rfl⟩) (fun hz3 => ?_))))
  replace h := h.le l10
  replace h' := h'.le l10
  refine chkN_den (chkN_den (call_retO (r_Ints h.s0.grave h'.s0.grave) rfl ⟨rfl, trivial⟩ fun H11 l11 => pure_den _ (not_eq' _) (br_den (fun hb => ret_denO ⟨neB (by rintro rfl; simp at hb), rfl⟩) (fun hz4 => ?_))))
  replace h := h.le l11
  replace h' := h'.le l11
  repeat (first | refine chkN_den ?_ | refine chkV_den ?_ | refine newbox_den fun _ => ?_ | refine pure_den _ (neq_eq _ _) ?_ | refine raw_denG (manaEq _ _ _ _ _ _ _ _) ?_ | refine pure_den _ (bneq_eq _ _) ?_ | refine pure_den _ (pick_or _ _) ?_)
  refine br_den (fun hb => ret_denO ⟨neB (by rintro rfl; simp at hb), rfl⟩) (fun hs1 => ?_)
  refine chkN_den (chkN_den (call_retO (r_Zones a.s1 p1 p2 p3 p4 _ _) rfl ⟨p1, p2, p3, p4, trivial⟩ fun H12 l12 => call_retO (r_Zones b.s1 p1' p2' p3' p4' _ _) rfl ⟨p1', p2', p3', p4', trivial⟩ fun H13 l13 => ?_))
  replace h := (h.le l12).le l13
  replace h' := (h'.le l12).le l13
  refine newbox_den fun _ => newbox_den fun _ => chkN_den (chkN_den (chkN_den (chkN_den (call_retO (r_Ints h.s1.lib h'.s1.lib) rfl ⟨rfl, trivial⟩ fun H8 l8 => pure_den _ (not_eq' _) (br_den (fun hb => ret_denO ⟨neB (by rintro rfl; simp at hb), rfl⟩) (fun hy1 => ?_))))))
  replace h := h.le l8
  replace h' := h'.le l8
  refine chkN_den (chkN_den (call_retO (r_Ints h.s1.hand h'.s1.hand) rfl ⟨rfl, trivial⟩ fun H9 l9 => pure_den _ (not_eq' _) (br_den (fun hb => ret_denO ⟨neB (by rintro rfl; simp at hb), rfl⟩) (fun hy2 => ?_))))
  replace h := h.le l9
  replace h' := h'.le l9
  refine chkN_den (chkN_den (call_retO (r_Ints h.s1.field h'.s1.field) rfl ⟨rfl, trivial⟩ fun H10 l10 => pure_den _ (not_eq' _) (br_den (fun hb => ret_denO ⟨neB (by rintro rfl; simp at hb), rfl⟩) (fun hy3 => ?_))))
  replace h := h.le l10
  replace h' := h'.le l10
  refine chkN_den (chkN_den (call_retO (r_Ints h.s1.grave h'.s1.grave) rfl ⟨rfl, trivial⟩ fun H11 l11 => pure_den _ (not_eq' _) (br_den (fun hb => ret_denO ⟨neB (by rintro rfl; simp at hb), rfl⟩) (fun hy4 => ?_))))
  refine ret_denO ⟨?_, rfl⟩
  simp only [Bool.not_eq_false', Bool.or_eq_false_iff, bne_eq_false_iff_eq, beq_iff_eq] at hstack hqueue hpl hz1 hz2 hz3 hz4 hy1 hy2 hy3 hy4
  have e : a = b := by
    have e0 : (a.s0 == b.s0) = true := by
      rw [stEq, hz1, hz2, hz3, hz4]
      simp only [stPlain, hs0]
      simp
    have e1 : (a.s1 == b.s1) = true := by
      rw [stEq, hy1, hy2, hy3, hy4]
      simp only [stPlain, hs1]
      simp
    have : (a == b) = true := by
      rw [bdEq, e0, e1, hobj, hblk, hstack, hqueue]
      simp only [bdPlain]
      simp_all
    simpa using this
  simp [e]
end Go.Proofs.YtjaegdkkiefchaaGreatDoor
