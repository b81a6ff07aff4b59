/- Small functions: numbers, slices of ints, function values over slices. -/
import Derived.Test.YtjaegdkkiefchaaGreatDoorBT3
import Derived.Test.YtjaegdkkiefchaaGreatDoorFw2
import Derived.Test.YtjaegdkkiefchaaGreatDoorFw2
import Derived.Test.YtjaegdkkiefchaaGreatDoorFw2
namespace Go.Proofs.YtjaegdkkiefchaaGreatDoor
open Go Go.Sx
set_option maxRecDepth 100000
set_option maxHeartbeats 1000000
abbrev I (n : Int) : Value := .int .i64 n
theorem c_within (a lo hi : Int) (H : Heap) (O : Own) : RetO PP F_board_within [I a, I lo, I hi] H O (.bool (decide (lo ≤ a ∧ a ≤ hi))) := by
 refine run_board_within (vs := [I a, I lo, I hi]) (by kernel_rfl) ⟨rfl, rfl, rfl, trivial⟩ ?_
 unfold T_board_within
 refine pure_den _ (geq_eq _ _) (chkV_den (chkV_den (pure_den _ (leq_eq _ _) (chkV_den (pure_den _ (pick_and _ _) (ret_denO ⟨?_, rfl⟩))))))
 simp [Bool.decide_and]
/-- The place of a number in a list. -/
def idxI : List Int → Int → Int → Int
 | [], _, _ => -1
 | a :: r, x, i => if x == a then i else idxI r x (i + 1)
theorem idxI_ge : ∀ (l : List Int) (x i : Int), 0 ≤ i → (decide (0 ≤ idxI l x i) = l.contains x)
 | [], x, i, _ => by simp [idxI]
 | a :: r, x, i, h => by
  simp only [idxI, List.contains_cons]
  by_cases hx : x = a
  ·simp [hx, h]
  ·simp only [beq_iff_eq, hx, if_false]
   rw [idxI_ge r x (i + 1) (by omega)]
   simp [hx]
theorem c_Index_int {H : Heap} {O : Own} {v : Value} {l : List Int} (h : RSl H O 1 v (l.map fun n => [I n])) (x : Int) : RetO PP F_slices_Index_int_int [v, I x] H O (I (idxI l x 0)) := by
 refine run_slices_Index_int_int (vs := [v, I x]) (by kernel_rfl) ⟨h.one, rfl, trivial⟩ ?_
 simp only [T_slices_Index_int_int]
 refine pure_den _ h.len ?_
 refine count_den l.length (fun i H' O' => O' = O ∧ Heap.le H H' ∧ idxI l x 0 = idxI (l.drop i) x i) ⟨rfl, Heap.le_refl H, by simp⟩ ?_
 rintro i H' O' hi - ⟨rfl, hle, hor⟩
 refine pure_den _ (lss_eq _ _) (br_den (fun hb => ?_) (fun hb => ?_))
 ·have hlt : i < l.length := by simpa using hb
  obtain ⟨a, h1, h2, _, h3, h4⟩ := (h.le hle).idx .i64 i [I l[i]] (by simp [hlt])
  refine pure_den _ h1 (load_denR h2 h3 h4 (pure_den _ (eql_eq _ _) (br_den (fun hb => ?_) (fun hb => ?_))))
  ·refine ret_denO ⟨?_, rfl⟩
   rw [hor, List.drop_eq_getElem_cons hlt, idxI, if_pos hb]; rfl
  ·refine pure_den _ (add_one (by have := h.lenB; simp at this; omega)) (count_cont (by simp [Eqs]) hlt ⟨rfl, hle, ?_⟩)
   rw [hor, List.drop_eq_getElem_cons hlt, idxI, if_neg (by rw [hb]; simp)]; rfl
 ·have hge : l.length ≤ i := by simpa using hb
  refine ret_denO ⟨?_, rfl⟩
  rw [hor, List.drop_of_length_le hge]; rfl
theorem c_Contains_int {H : Heap} {O : Own} {v : Value} {l : List Int} (h : RSl H O 1 v (l.map fun n => [I n])) (x : Int) : RetO PP F_slices_Contains_int_int [v, I x] H O (.bool (l.contains x)) := by
 refine run_slices_Contains_int_int (vs := [v, I x]) (by kernel_rfl) ⟨h.one, rfl, trivial⟩ ?_
 simp only [T_slices_Contains_int_int]
 refine call_retO (c_Index_int h x) rfl ⟨rfl, trivial⟩ fun H1 _ => pure_den _ (geq_eq _ _) (ret_denO ⟨?_, rfl⟩)
 rw [← idxI_ge l x 0 (by omega)]
/-- A new slice with the same rows. -/
theorem c_Clone_int {H : Heap} {v : Value} {l : List (List Value)} (h : Sl H 1 v l) (hb : l.length ≤ 2 ^ 40) : Triple PP F_slices_Clone_int_int [v] H [] fun v' H' O' => OSl Ty_int 1 v' l O' := by
 refine run_slices_Clone_int_int (vs := [v]) (by kernel_rfl) ⟨h.one, trivial⟩ ?_
 simp only [T_slices_Clone_int_int]
 obtain ⟨a, cap, rfl, h1, h2, h3⟩ := h
 have hev : evalPure (.bin .eql .slice) [.slice a l.length cap, .slice none 0 0] = some (.bool a.isNone) := by cases a <;> rfl
 refine pure_den _ hev (br_den (fun hn => ret_denO ?_) (fun hn => fun r0 => ?_))
 ·have hl : l = [] := by
   by_cases hl : l = []
   ·exact hl
   ·obtain ⟨ad, rfl, _⟩ := h3 hl; cases hn
  subst hl
  exact OSl.nil Ty_int 1
 ·refine call_append (rows := []) (news := l) (O1 := []) (O2 := []) (e := Ty_int) (size := 1) (bytes := 8) (by kernel_rfl) (List.Perm.refl _) (.inl ⟨⟨_, rfl⟩, rfl, rfl⟩) (fun Hf hl _ => Sl.le hl ⟨a, cap, rfl, h1, h2, h3⟩) (by simp; omega) (by simp; omega) ?_
  intro v' O1' H' _ ho
  refine ret_denO ?_
  rw [List.append_nil]
  exact ho
end Go.Proofs.YtjaegdkkiefchaaGreatDoor
namespace Go.Sx
open Go
abbrev iV (n : Int) : Value := .int .i64 n
def ints (l : List Int) : List (List Value) := l.map fun n => [iV n]
structure Ob where
 (id card owner power tough dmg cnt pp pt : Int)
 (tap sick doom : Bool)
deriving DecidableEq
def Ob.row (o : Ob) : List Value := [iV o.id, iV o.card, iV o.owner, iV o.power, iV o.tough, iV o.dmg, iV o.cnt, iV o.pp, iV o.pt, .bool o.tap, .bool o.sick, .bool o.doom]
structure Tg where
 (id player : Int)
deriving DecidableEq
def Tg.row (t : Tg) : List Value := [iV t.id, iV t.player]
structure It where
 (player id card trig : Int)
 tgs : List Tg
deriving DecidableEq
structure Bl where
 (blocker attacker : Int)
deriving DecidableEq
def Bl.row (b : Bl) : List Value := [iV b.blocker, iV b.attacker]
structure St where
 (life p0 p1 p2 p3 : Int)
 (lib hand field grave : List Int)
 (empty played kept : Bool)
 (mull acts : Int)
deriving DecidableEq
structure Bd where
 objs : List Ob
 (s0 s1 : St)
 (stack queue : List It)
 att : List Int
 blocks : List Bl
 (turn active phase holder passes : Int)
deriving DecidableEq
/-- An item's row. -/
def ItR (H : Heap) (O : Own) (row : List Value) (x : It) : Prop := ∃ s, row = [iV x.player, iV x.id, iV x.card, iV x.trig, s] ∧ RSl H O 2 s (x.tgs.map Tg.row)
def ItsR (H : Heap) (O : Own) (v : Value) (l : List It) : Prop := ∃ rows, RSl H O 5 v rows ∧ rows.length = l.length ∧ ∀ (i : Nat) (r : List Value) (x : It), rows[i]? = some r → l[i]? = some x → ItR H O r x
structure StR (H : Heap) (O : Own) (vl vh vf vg : Value) (s : St) : Prop where
 lib : RSl H O 1 vl (ints s.lib)
 hand : RSl H O 1 vh (ints s.hand)
 field : RSl H O 1 vf (ints s.field)
 grave : RSl H O 1 vg (ints s.grave)
def seatC (vl vh vf vg : Value) (s : St) : List Value := [iV s.life, iV s.p0, iV s.p1, iV s.p2, iV s.p3, vl, vh, vf, vg, .bool s.empty, .bool s.played, .bool s.kept, iV s.mull, iV s.acts]
/-- The values of a board's slices. -/
structure BV12 where
 (o l0 h0 f0 g0 l1 h1 f1 g1 s q a b : Value)
def boardC (v : BV12) (b : Bd) : List Value :=
  [v.o, iV b.s0.life, iV b.s0.p0, iV b.s0.p1, iV b.s0.p2, iV b.s0.p3, v.l0, v.h0, v.f0, v.g0, .bool b.s0.empty, .bool b.s0.played, .bool b.s0.kept, iV b.s0.mull, iV b.s0.acts,
   iV b.s1.life, iV b.s1.p0, iV b.s1.p1, iV b.s1.p2, iV b.s1.p3, v.l1, v.h1, v.f1, v.g1, .bool b.s1.empty, .bool b.s1.played, .bool b.s1.kept, iV b.s1.mull, iV b.s1.acts,
   v.s, v.q, v.a, v.b, iV b.turn, iV b.active, iV b.phase, iV b.holder, iV b.passes]
structure BdR (H : Heap) (O : Own) (v : BV12) (b : Bd) : Prop where
 objs : RSl H O 12 v.o (b.objs.map Ob.row)
 s0 : StR H O v.l0 v.h0 v.f0 v.g0 b.s0
 s1 : StR H O v.l1 v.h1 v.f1 v.g1 b.s1
 stack : ItsR H O v.s b.stack
 queue : ItsR H O v.q b.queue
 att : RSl H O 1 v.a (ints b.att)
 blocks : RSl H O 2 v.b (b.blocks.map Bl.row)
theorem ItR.le {H H' : Heap} {O : Own} {row : List Value} {x : It} (h : ItR H O row x) (hl : Heap.le H H') : ItR H' O row x := let ⟨s, h1, h2⟩ := h; ⟨s, h1, h2.le hl⟩
theorem ItsR.le {H H' : Heap} {O : Own} {v : Value} {l : List It} (h : ItsR H O v l) (hl : Heap.le H H') : ItsR H' O v l :=
 let ⟨rows, h1, h2, h3⟩ := h; ⟨rows, h1.le hl, h2, fun i r x a b => (h3 i r x a b).le hl⟩
theorem StR.le {H H' : Heap} {O : Own} {vl vh vf vg : Value} {s : St} (h : StR H O vl vh vf vg s) (hl : Heap.le H H') : StR H' O vl vh vf vg s := ⟨h.lib.le hl, h.hand.le hl, h.field.le hl, h.grave.le hl⟩
theorem BdR.le {H H' : Heap} {O : Own} {v : BV12} {b : Bd} (h : BdR H O v b) (hl : Heap.le H H') : BdR H' O v b :=
 ⟨h.objs.le hl, h.s0.le hl, h.s1.le hl, h.stack.le hl, h.queue.le hl, h.att.le hl, h.blocks.le hl⟩
/-! What is valid -/
def withinB (a lo hi : Int) : Bool := decide (lo ≤ a ∧ a ≤ hi)
def aimedB (t : Tg) : Bool := withinB t.id 0 500 && (withinB t.player 0 1 && (t.id == 0 || t.player == 0))
def fineB (x : It) (q : Bool) : Bool :=
 withinB x.player 0 1 && (withinB x.id 1 500 && (withinB x.card 0 399 && (withinB x.trig (-1) 1 && (!(decide ((x.tgs.length : Int) > 4) || (decide (x.trig ≥ 0) && decide ((x.tgs.length : Int) > 0)) || (q && decide (x.trig < 0))) && !x.tgs.any (fun t => !aimedB t)))))
/-- The place of the first element of which p holds. -/
def idxP {α : Type} (p : α → Bool) : List α → Int → Int
 | [], _ => -1
 | a :: r, i => if p a then i else idxP p r (i + 1)
theorem idxP_ge {α : Type} (p : α → Bool) : ∀ (l : List α) (i : Int), 0 ≤ i → decide (0 ≤ idxP p l i) = l.any p
 | [], i, _ => by simp [idxP]
 | a :: r, i, h => by
  simp only [idxP, List.any_cons]
  by_cases hx : p a
  ·simp [hx, h]
  ·simp only [hx, Bool.false_eq_true, if_false, Bool.false_or]
   exact idxP_ge p r (i + 1) (by omega)
end Go.Sx
namespace Go.Proofs.YtjaegdkkiefchaaGreatDoor
open Go Go.Sx
set_option maxRecDepth 100000
set_option maxHeartbeats 1000000
theorem c_aimed (t : Tg) (H : Heap) (O : Own) : RetO PP F_board_aimed [.agg #[iV t.id, iV t.player]] H O (.bool (aimedB t)) := by
 refine run_board_aimed (vs := [iV t.id, iV t.player]) (by kernel_rfl) ⟨rfl, rfl, trivial⟩ ?_
 simp only [T_board_aimed]
 refine fun r0 => chkN_den (call_retO (c_within t.id 0 500 H O) rfl ⟨rfl, trivial⟩ fun H1 _ => br_den (fun hb => chkN_den ?_) (fun hb => ret_denO ⟨?_, rfl⟩))
 ·refine call_retO (c_within t.player 0 1 H1 O) rfl ⟨rfl, trivial⟩ fun H2 _ => ?_
  repeat (first | refine chkN_den ?_ | refine chkV_den ?_ | refine newbox_den fun _ => ?_ | refine pure_den _ (lss_eq _ _) ?_ | refine pure_den _ (gtr_eq _ _) ?_ | refine pure_den _ (leq_eq _ _) ?_ | refine pure_den _ (geq_eq _ _) ?_ | refine pure_den _ (eql_eq _ _) ?_ | refine pure_den _ (neq_eq _ _) ?_ | refine pure_den _ (pick_and _ _) ?_ | refine pure_den _ (pick_or _ _) ?_ | refine pure_den _ (not_eq' _) ?_ | refine pure_den _ (beql_eq _ _) ?_ | refine pure_den _ (bneq_eq _ _) ?_)
  refine ret_denO ⟨?_, rfl⟩
  simp only [aimedB, withinB, hb, Bool.true_and]
 ·simp only [aimedB, withinB, hb, Bool.false_and]
theorem c_fine_1 (t : Tg) (H : Heap) (O : Own) : RetO PP F_board_fine_1 [.agg #[iV t.id, iV t.player]] H O (.bool (!aimedB t)) := by
 refine run_board_fine_1 (vs := [iV t.id, iV t.player]) (by kernel_rfl) ⟨rfl, rfl, trivial⟩ ?_
 simp only [T_board_fine_1]
 exact fun r0 => chkN_den (call_retO (c_aimed t H O) rfl ⟨rfl, trivial⟩ fun H1 _ => pure_den _ (not_eq' _) (ret_denO ⟨rfl, rfl⟩))
theorem c_IndexFunc_Target {H : Heap} {O : Own} {v fv : Value} {l : List Tg} {p : Tg → Bool} (h : RSl H O 2 v (l.map Tg.row)) {f : FuncId} (hf : fv = .func (.func f) #[] #[]) (hok : OkFn PP f)
  (hp : ∀ H', Heap.le H H' → ∀ t, RetO PP f [.agg #[iV t.id, iV t.player]] H' O (.bool (p t))) : RetO PP F_slices_IndexFunc_api_Target_api_Target [v, fv] H O (iV (idxP p l 0)) := by
 subst hf
 refine run_slices_IndexFunc_api_Target_api_Target (vs := [v, .func (.func f) #[] #[]]) (by kernel_rfl) ⟨h.one, rfl, trivial⟩ ?_
 simp only [T_slices_IndexFunc_api_Target_api_Target]
 refine pure_den _ h.len ?_
 rw [List.length_map]
 refine count_den l.length (fun i H' O' => O' = O ∧ Heap.le H H' ∧ idxP p l 0 = idxP p (l.drop i) i) ⟨rfl, Heap.le_refl H, by simp⟩ ?_
 rintro i H' O' hi - ⟨rfl, hle, hor⟩
 refine pure_den _ (lss_eq _ _) (br_den (fun hb => ?_) (fun hb => ?_))
 ·have hlt : i < l.length := by simpa using hb
  obtain ⟨a, h1, h2, _, h3, h4⟩ := (h.le hle).idx .i64 i (Tg.row l[i]) (by simp [hlt])
  refine pure_den _ h1 (load_denR h2 h3 h4 (callv_den rfl hok (hp H' hle l[i]) rfl ⟨rfl, trivial⟩ fun H2 hle2 => br_den (fun hb => ?_) (fun hb => ?_)))
  ·refine ret_denO ⟨?_, rfl⟩
   rw [hor, List.drop_eq_getElem_cons hlt, idxP, if_pos hb]; rfl
  ·refine pure_den _ (add_one (by have := h.lenB; simp at this; omega)) (count_cont (by simp [Eqs, E]) hlt ⟨rfl, Heap.le_trans hle hle2, ?_⟩)
   rw [hor, List.drop_eq_getElem_cons hlt, idxP, if_neg (by rw [hb]; simp)]; rfl
 ·have hge : l.length ≤ i := by simpa using hb
  refine ret_denO ⟨?_, rfl⟩
  rw [hor, List.drop_of_length_le hge]; rfl
theorem c_ContainsFunc_Target {H : Heap} {O : Own} {v fv : Value} {l : List Tg} {p : Tg → Bool} (h : RSl H O 2 v (l.map Tg.row)) {f : FuncId} (hf : fv = .func (.func f) #[] #[]) (hok : OkFn PP f)
  (hp : ∀ H', Heap.le H H' → ∀ t, RetO PP f [.agg #[iV t.id, iV t.player]] H' O (.bool (p t))) : RetO PP F_slices_ContainsFunc_api_Target_api_Target [v, fv] H O (.bool (l.any p)) := by
 have hone : fv.oneCell' = true := by subst hf; rfl
 refine run_slices_ContainsFunc_api_Target_api_Target (vs := [v, fv]) (by kernel_rfl) ⟨h.one, hone, trivial⟩ ?_
 simp only [T_slices_ContainsFunc_api_Target_api_Target]
 refine call_retO (c_IndexFunc_Target h hf hok hp) rfl ⟨rfl, trivial⟩ fun H1 _ => pure_den _ (geq_eq _ _) (ret_denO ⟨?_, rfl⟩)
 rw [← idxP_ge p l 0 (by omega)]
theorem c_fine {H : Heap} {O : Own} {row : List Value} {x : It} (h : ItR H O row x) (q : Bool) : RetO PP F_board_fine [.agg row.toArray, .bool q] H O (.bool (fineB x q)) := by
 obtain ⟨s, rfl, hs⟩ := h
 refine run_board_fine (vs := [iV x.player, iV x.id, iV x.card, iV x.trig, s, .bool q]) (by kernel_rfl) ⟨rfl, rfl, rfl, rfl, hs.one, rfl, trivial⟩ ?_
 simp only [T_board_fine]
 have hlen : evalPure .len [s] = some (iV x.tgs.length) := by have := hs.len; rwa [List.length_map] at this
 refine fun r0 => chkN_den (call_retO (c_within x.player 0 1 H O) rfl ⟨rfl, trivial⟩ fun H1 l1 => br_den (fun h1 => chkN_den ?_) (fun h1 => ret_denO ⟨by simp only [fineB, withinB, h1, Bool.false_and], rfl⟩))
 refine call_retO (c_within x.id 1 500 H1 O) rfl ⟨rfl, trivial⟩ fun H2 l2 => br_den (fun h2 => chkN_den ?_) (fun h2 => ret_denO ⟨by simp only [fineB, withinB, h1, h2, Bool.false_and, Bool.true_and], rfl⟩)
 refine call_retO (c_within x.card 0 399 H2 O) rfl ⟨rfl, trivial⟩ fun H3 l3 => br_den (fun h3 => chkN_den ?_) (fun h3 => ret_denO ⟨by simp only [fineB, withinB, h1, h2, h3, Bool.false_and, Bool.true_and], rfl⟩)
 refine call_retO (c_within x.trig (-1) 1 H3 O) rfl ⟨rfl, trivial⟩ fun H4 l4 => ?_
 repeat (first | refine chkN_den ?_ | refine chkV_den ?_ | refine pure_den _ hlen ?_ | refine pure_den _ (lss_eq _ _) ?_ | refine pure_den _ (gtr_eq _ _) ?_ | refine pure_den _ (geq_eq _ _) ?_ | refine pure_den _ (pick_and _ _) ?_ | refine pure_den _ (pick_or _ _) ?_ | refine pure_den _ (not_eq' _) ?_)
 have hle := Heap.le_trans (Heap.le_trans (Heap.le_trans l1 l2) l3) l4
 have hfb : fineB x q = (!(!decide (-1 ≤ x.trig ∧ x.trig ≤ 1) || decide ((x.tgs.length : Int) > 4) || (decide (x.trig ≥ 0) && decide ((x.tgs.length : Int) > 0)) || (q && decide (x.trig < 0))) && !x.tgs.any (fun t => !aimedB t)) := by
  simp only [fineB, withinB, h1, h2, h3, Bool.true_and]
  cases decide (-1 ≤ x.trig ∧ x.trig ≤ 1) <;> simp
 refine br_den (fun hb => ret_denO ⟨?_, rfl⟩) (fun hb => chkN_den ?_)
 ·rw [hfb, hb]; simp
 ·refine call_retO (c_ContainsFunc_Target (p := fun t => !aimedB t) (hs.le hle) rfl (okFn_of okL_ok (by decide)) fun H' _ t => c_fine_1 t H' O) rfl ⟨rfl, trivial⟩ fun H5 _ => pure_den _ (not_eq' _) (ret_denO ⟨?_, rfl⟩)
  rw [hfb, hb]; simp
end Go.Proofs.YtjaegdkkiefchaaGreatDoor
namespace Go.Proofs.YtjaegdkkiefchaaGreatDoor
open Go Go.Sx
set_option maxRecDepth 100000
set_option maxHeartbeats 1000000
theorem c_IndexFunc_Item {H : Heap} {O : Own} {v fv : Value} {l : List It} {p : It → Bool} (h : ItsR H O v l) {f : FuncId} {caps : Array Value} (hf : fv = .func (.func f) #[] caps) (hok : OkFn PP f)
  (hp : ∀ H', Heap.le H H' → ∀ row x, ItR H' O row x → RetO PP f ([.agg row.toArray] ++ caps.toList) H' O (.bool (p x))) : RetO PP F_slices_IndexFunc_api_Item_api_Item [v, fv] H O (iV (idxP p l 0)) := by
 subst hf
 obtain ⟨rows, hr, hlen, hit⟩ := h
 refine run_slices_IndexFunc_api_Item_api_Item (vs := [v, .func (.func f) #[] caps]) (by kernel_rfl) ⟨hr.one, rfl, trivial⟩ ?_
 simp only [T_slices_IndexFunc_api_Item_api_Item]
 refine pure_den _ hr.len ?_
 rw [hlen]
 refine count_den l.length (fun i H' O' => O' = O ∧ Heap.le H H' ∧ idxP p l 0 = idxP p (l.drop i) i) ⟨rfl, Heap.le_refl H, by simp⟩ ?_
 rintro i H' O' hi - ⟨rfl, hle, hor⟩
 refine pure_den _ (lss_eq _ _) (br_den (fun hb => ?_) (fun hb => ?_))
 ·have hlt : i < l.length := by simpa using hb
  have hlt' : i < rows.length := by omega
  obtain ⟨a, h1, h2, _, h3, h4⟩ := (hr.le hle).idx .i64 i rows[i] (by simp [hlt'])
  have hx := (hit i rows[i] l[i] (by simp [hlt']) (by simp [hlt])).le hle
  have hx' := hx
  obtain ⟨s, hrow, hs⟩ := hx
  have hcall := hp H' hle rows[i] l[i] hx'
  rw [hrow] at h2 h3 h4 hcall
  refine pure_den _ h1 (load_denR h2 h3 h4 (callv_den rfl hok hcall rfl ⟨rfl, trivial⟩ fun H2 hle2 => br_den (fun hb => ?_) (fun hb => ?_)))
  ·refine ret_denO ⟨?_, rfl⟩
   rw [hor, List.drop_eq_getElem_cons hlt, idxP, if_pos hb]; rfl
  ·refine pure_den _ (add_one (by have := hr.lenB; omega)) (count_cont (by simp [Eqs, E]) hlt ⟨rfl, Heap.le_trans hle hle2, ?_⟩)
   rw [hor, List.drop_eq_getElem_cons hlt, idxP, if_neg (by rw [hb]; simp)]; rfl
 ·have hge : l.length ≤ i := by simpa using hb
  refine ret_denO ⟨?_, rfl⟩
  rw [hor, List.drop_of_length_le hge]; rfl
theorem ItsR.one {H : Heap} {O : Own} {v : Value} {l : List It} (h : ItsR H O v l) : v.oneCell' = true := by
 obtain ⟨_, h, _⟩ := h
 exact h.one
theorem ItsR.len {H : Heap} {O : Own} {v : Value} {l : List It} (h : ItsR H O v l) : evalPure .len [v] = some (iV l.length) := by
 obtain ⟨rows, h1, h2, _⟩ := h
 rw [h1.len, h2]
theorem c_ContainsFunc_Item {H : Heap} {O : Own} {v fv : Value} {l : List It} {p : It → Bool} (h : ItsR H O v l) {f : FuncId} {caps : Array Value} (hf : fv = .func (.func f) #[] caps) (hok : OkFn PP f)
  (hp : ∀ H', Heap.le H H' → ∀ row x, ItR H' O row x → RetO PP f ([.agg row.toArray] ++ caps.toList) H' O (.bool (p x))) : RetO PP F_slices_ContainsFunc_api_Item_api_Item [v, fv] H O (.bool (l.any p)) := by
 have hone : fv.oneCell' = true := by subst hf; rfl
 refine run_slices_ContainsFunc_api_Item_api_Item (vs := [v, fv]) (by kernel_rfl) ⟨ItsR.one h, hone, trivial⟩ ?_
 simp only [T_slices_ContainsFunc_api_Item_api_Item]
 refine call_retO (c_IndexFunc_Item h hf hok hp) rfl ⟨rfl, trivial⟩ fun H1 _ => pure_den _ (geq_eq _ _) (ret_denO ⟨?_, rfl⟩)
 rw [← idxP_ge p l 0 (by omega)]
theorem c_Valid_1 {H : Heap} {O : Own} {row : List Value} {x : It} (h : ItR H O row x) : RetO PP F_board_Valid_1 [.agg row.toArray] H O (.bool (!fineB x false)) := by
 have hf := c_fine h false
 obtain ⟨s, rfl, hs⟩ := h
 refine run_board_Valid_1 (vs := [iV x.player, iV x.id, iV x.card, iV x.trig, s]) (by kernel_rfl) ⟨rfl, rfl, rfl, rfl, hs.one, trivial⟩ ?_
 simp only [T_board_Valid_1]
 exact fun r0 => chkN_den (call_retO hf rfl ⟨rfl, trivial⟩ fun H1 _ => pure_den _ (not_eq' _) (ret_denO ⟨rfl, rfl⟩))
theorem c_Valid_2 {H : Heap} {O : Own} {row : List Value} {x : It} (h : ItR H O row x) : RetO PP F_board_Valid_2 [.agg row.toArray] H O (.bool (!fineB x true)) := by
 have hf := c_fine h true
 obtain ⟨s, rfl, hs⟩ := h
 refine run_board_Valid_2 (vs := [iV x.player, iV x.id, iV x.card, iV x.trig, s]) (by kernel_rfl) ⟨rfl, rfl, rfl, rfl, hs.one, trivial⟩ ?_
 simp only [T_board_Valid_2]
 exact fun r0 => chkN_den (call_retO hf rfl ⟨rfl, trivial⟩ fun H1 _ => pure_den _ (not_eq' _) (ret_denO ⟨rfl, rfl⟩))
theorem aidx_eq {l : List Value} {i : Nat} {v : Value} (h : l[i]? = some v) : evalPure .aidx (iV i :: l) = some v := by
 have hlt := (List.getElem?_eq_some_iff.1 h).1
 simp only [evalPure, evalAidx]
 rw [if_pos ⟨by omega, by omega⟩]
 simpa using h
/-- Four numbers, all of them from 0 to another one. -/
theorem c_mana_within (a b c d m : Int) (H : Heap) (O : Own) : RetO PP F_mana_within [.agg #[iV a, iV b, iV c, iV d], iV m] H O (.bool ([a, b, c, d].all fun n => withinB n 0 m)) := by
 refine run_mana_within (vs := [iV a, iV b, iV c, iV d, iV m]) (by kernel_rfl) ⟨rfl, rfl, rfl, rfl, rfl, trivial⟩ ?_
 simp only [T_mana_within]
 refine fun r0 => chkN_den (count_den 4 (fun i H' O' => O' = O ∧ ([a, b, c, d].all fun n => withinB n 0 m) = (([a, b, c, d].drop i).all fun n => withinB n 0 m)) ⟨rfl, rfl⟩ ?_)
 rintro i H' O' hi - ⟨rfl, hor⟩
 refine pure_den _ (lss_eq _ _) (br_den (fun hb => ?_) (fun hb => ?_))
 ·have hlt : i < 4 := by have := of_decide_eq_true hb; omega
  have hlt' : i < [a, b, c, d].length := hlt
  have hv : [iV a, iV b, iV c, iV d][i]? = some (iV [a, b, c, d][i]) := by
   have : [iV a, iV b, iV c, iV d] = [a, b, c, d].map iV := rfl
   rw [this, List.getElem?_map, List.getElem?_eq_getElem hlt']; rfl
  refine pure_den _ (aidx_eq hv) (pure_den _ (lss_eq _ _) (chkV_den (chkV_den (pure_den _ (gtr_eq _ _) (chkV_den (pure_den _ (pick_or _ _) (br_den (fun hb => ret_denO ⟨?_, rfl⟩) (fun hb => pure_den _ (add_one (by omega)) (count_cont (by simp [Eqs, E]) hlt ⟨rfl, ?_⟩)))))))))
  ·rw [hor, List.drop_eq_getElem_cons hlt', List.all_cons]
   have : withinB [a, b, c, d][i] 0 m = false := by simp [withinB] at hb ⊢; omega
   rw [this]; rfl
  ·rw [hor, List.drop_eq_getElem_cons hlt', List.all_cons]
   have : withinB [a, b, c, d][i] 0 m = true := by simp [withinB] at hb ⊢; omega
   rw [this]; rfl
 ·have : i = 4 := by have := of_decide_eq_false hb; omega
  subst this
  exact ret_denO ⟨by rw [hor]; rfl, rfl⟩
theorem c_mana_Valid (a b c d : Int) (H : Heap) (O : Own) : RetO PP F_mana_Valid [.agg #[iV a, iV b, iV c, iV d]] H O (.bool ([a, b, c, d].all fun n => withinB n 0 99)) := by
 refine run_mana_Valid (vs := [iV a, iV b, iV c, iV d]) (by kernel_rfl) ⟨rfl, rfl, rfl, rfl, trivial⟩ ?_
 simp only [T_mana_Valid]
 exact fun r0 => chkN_den (call_retO (c_mana_within a b c d 99 H O) rfl ⟨rfl, trivial⟩ fun H1 _ => ret_denO ⟨rfl, rfl⟩)
/-- Is an object valid? -/
def validO (o : Ob) : Bool := ([o.power, o.tough, o.dmg, o.cnt, o.pp, o.pt].all fun n => withinB n 0 99) &&
 ((((((o.card == -1) || ((o.power == 0) && (o.tough == 0))) && decide (o.id ≥ 1)) && decide (o.id ≤ 500)) && decide (o.card ≥ -1)) && decide (o.card < 400)) && ((o.owner == 0) || (o.owner == 1))
theorem c_object_Valid (o : Ob) (H : Heap) (O : Own) : RetO PP F_object_Valid [.agg o.row.toArray] H O (.bool (validO o)) := by
 refine run_object_Valid (vs := o.row) (by kernel_rfl) (by simp [Ob.row, Ones, Value.oneCell']) ?_
 simp only [T_object_Valid]
 refine fun r0 => chkN_den (chkN_den (chkN_den (chkN_den (chkN_den (chkN_den (count_den 6 (fun i H' O' => O' = O ∧ ([o.power, o.tough, o.dmg, o.cnt, o.pp, o.pt].all fun n => withinB n 0 99) = (([o.power, o.tough, o.dmg, o.cnt, o.pp, o.pt].drop i).all fun n => withinB n 0 99)) ⟨rfl, rfl⟩ ?_))))))
 rintro i H' O' hi - ⟨rfl, hor⟩
 refine pure_den _ (lss_eq _ _) (br_den (fun hb => ?_) (fun hb => ?_))
 ·have hlt : i < 6 := by have := of_decide_eq_true hb; omega
  have hlt' : i < [o.power, o.tough, o.dmg, o.cnt, o.pp, o.pt].length := hlt
  have hv : [iV o.power, iV o.tough, iV o.dmg, iV o.cnt, iV o.pp, iV o.pt][i]? = some (iV [o.power, o.tough, o.dmg, o.cnt, o.pp, o.pt][i]) := by
   have : [iV o.power, iV o.tough, iV o.dmg, iV o.cnt, iV o.pp, iV o.pt] = [o.power, o.tough, o.dmg, o.cnt, o.pp, o.pt].map iV := rfl
   rw [this, List.getElem?_map, List.getElem?_eq_getElem hlt']; rfl
  refine pure_den _ (aidx_eq hv) (pure_den _ (lss_eq _ _) (chkV_den (pure_den _ (gtr_eq _ _) (chkV_den (pure_den _ (pick_or _ _) (br_den (fun hb => ret_denO ⟨?_, rfl⟩) (fun hb => pure_den _ (add_one (by omega)) (count_cont (by simp [Eqs, E]) hlt ⟨rfl, ?_⟩))))))))
  ·have hf : ([o.power, o.tough, o.dmg, o.cnt, o.pp, o.pt].all fun n => withinB n 0 99) = false := by
    rw [hor, List.drop_eq_getElem_cons hlt', List.all_cons]
    have : withinB [o.power, o.tough, o.dmg, o.cnt, o.pp, o.pt][i] 0 99 = false := by simp [withinB] at hb ⊢; omega
    rw [this]; rfl
   unfold validO; rw [hf]; rfl
  ·rw [hor, List.drop_eq_getElem_cons hlt', List.all_cons]
   have : withinB [o.power, o.tough, o.dmg, o.cnt, o.pp, o.pt][i] 0 99 = true := by simp [withinB] at hb ⊢; omega
   rw [this]; rfl
 ·have : i = 6 := by have := of_decide_eq_false hb; omega
  subst this
  repeat (first | refine chkN_den ?_ | refine chkV_den ?_ | refine newbox_den fun _ => ?_ | refine pure_den _ (lss_eq _ _) ?_ | refine pure_den _ (gtr_eq _ _) ?_ | refine pure_den _ (leq_eq _ _) ?_ | refine pure_den _ (geq_eq _ _) ?_ | refine pure_den _ (eql_eq _ _) ?_ | refine pure_den _ (neq_eq _ _) ?_ | refine pure_den _ (pick_and _ _) ?_ | refine pure_den _ (pick_or _ _) ?_ | refine pure_den _ (not_eq' _) ?_ | refine pure_den _ (beql_eq _ _) ?_ | refine pure_den _ (bneq_eq _ _) ?_)
  refine ret_denO ⟨?_, rfl⟩
  have hall : ([o.power, o.tough, o.dmg, o.cnt, o.pp, o.pt].all fun n => withinB n 0 99) = true := by rw [hor]; rfl
  unfold validO; rw [hall, Bool.true_and]
end Go.Proofs.YtjaegdkkiefchaaGreatDoor
namespace Go.Proofs.YtjaegdkkiefchaaGreatDoor
open Go Go.Sx
set_option maxRecDepth 100000
set_option maxHeartbeats 1000000
theorem raw_denG {P : Program} {gd : Gd} {op : PrimOp} {args : List Value} {k : Value → Tree} {H : Heap} {O : Own} {Q : Value → Heap → Own → Prop} {v : Value} (h : rawE P op args = some v) (hk : (k v).den P Q H O) :
  (Tree.raw gd op args k).den P Q H O := ⟨v, fun _ w => (rawE_run h w).1, (rawE_run h default).2, hk⟩
def chain : List Bool → Option Bool
 | [] => some true
 | b :: r => match some b with | some true => chain r | some false => some false | none => none
theorem chain_all : ∀ l : List Bool, chain l = some (l.all id)
 | [] => rfl
 | true :: r => by simp [chain, chain_all r]
 | false :: r => by simp [chain]
theorem obEq (o p : Ob) : rawE PP (.eqv .neq Ty_api_Object false) [.agg o.row.toArray, .agg p.row.toArray] = some (.bool (!(o == p))) := by
 have e : rawE PP (.eqv .neq Ty_api_Object false) [.agg o.row.toArray, .agg p.row.toArray] = (chain [o.id == p.id, o.card == p.card, o.owner == p.owner, o.power == p.power, o.tough == p.tough, o.dmg == p.dmg, o.cnt == p.cnt, o.pp == p.pp, o.pt == p.pt, o.tap == p.tap, o.sick == p.sick, o.doom == p.doom]).map fun b => .bool (!b) := by kernel_rfl
 rw [e, chain_all]
 simp only [Option.map_some, Option.some.injEq, Value.bool.injEq]
 congr 1
 cases o; cases p
 rw [Bool.eq_iff_iff]
 simp
theorem tgEq (o p : Tg) : rawE PP (.eqv .neq Ty_api_Target false) [.agg o.row.toArray, .agg p.row.toArray] = some (.bool (!(o == p))) := by
 have e : rawE PP (.eqv .neq Ty_api_Target false) [.agg o.row.toArray, .agg p.row.toArray] = (chain [o.id == p.id, o.player == p.player]).map fun b => .bool (!b) := by kernel_rfl
 rw [e, chain_all]
 simp only [Option.map_some, Option.some.injEq, Value.bool.injEq]
 congr 1
 cases o; cases p
 rw [Bool.eq_iff_iff]
 simp
theorem blEq (o p : Bl) : rawE PP (.eqv .neq Ty_api_Block false) [.agg o.row.toArray, .agg p.row.toArray] = some (.bool (!(o == p))) := by
 have e : rawE PP (.eqv .neq Ty_api_Block false) [.agg o.row.toArray, .agg p.row.toArray] = (chain [o.blocker == p.blocker, o.attacker == p.attacker]).map fun b => .bool (!b) := by kernel_rfl
 rw [e, chain_all]
 simp only [Option.map_some, Option.some.injEq, Value.bool.injEq]
 congr 1
 cases o; cases p
 rw [Bool.eq_iff_iff]
 simp
theorem manaEq (a b c d a' b' c' d' : Int) : rawE PP (.eqv .neq Ty_api_Mana false) [.agg #[iV a, iV b, iV c, iV d], .agg #[iV a', iV b', iV c', iV d']] = some (.bool (!(a == a' && (b == b' && (c == c' && d == d'))))) := by
 have e : rawE PP (.eqv .neq Ty_api_Mana false) [.agg #[iV a, iV b, iV c, iV d], .agg #[iV a', iV b', iV c', iV d']] = (chain [a == a', b == b', c == c', d == d']).map fun b => .bool (!b) := by kernel_rfl
 rw [e, chain_all]
 simp
theorem r_Ints {H : Heap} {O : Own} {v v' : Value} {l l' : List Int} (h : RSl H O 1 v (ints l)) (h' : RSl H O 1 v' (ints l')) : RetO PP F_zeitnotref15_Ints [v, v'] H O (.bool (l == l')) := by
 refine run_zeitnotref15_Ints (vs := [v, v']) (by kernel_rfl) ⟨h.one, h'.one, trivial⟩ ?_
 simp only [T_zeitnotref15_Ints]
 have hl := h.len
 have hl' := h'.len
 rw [ints, List.length_map] at hl hl'
 refine pure_den _ hl (pure_den _ hl' (pure_den _ (neq_eq _ _) (br_den (fun hb => ret_denO ⟨?_, rfl⟩) (fun hb => ?_))))
 ·have : l ≠ l' := by intro e; subst e; simp at hb
  simp [this]
 ·have hlen : l.length = l'.length := by simp at hb; omega
  refine count_den l.length (fun i H' O' => O' = O ∧ Heap.le H H' ∧ l.take i = l'.take i) ⟨rfl, Heap.le_refl H, by simp⟩ ?_
  rintro i H' O' hi - ⟨rfl, hle, hor⟩
  refine pure_den _ hl (pure_den _ (lss_eq _ _) (br_den (fun hb => ?_) (fun hb => ?_)))
  ·have hlt : i < l.length := by simpa using hb
   have hlt' : i < l'.length := by omega
   obtain ⟨a, h1, h2, _, h3, h4⟩ := (h.le hle).idx .i64 i [iV l[i]] (by simp [ints, hlt])
   obtain ⟨b, k1, k2, _, k3, k4⟩ := (h'.le hle).idx .i64 i [iV l'[i]] (by simp [ints, hlt'])
   refine pure_den _ h1 (load_denR h2 h3 h4 (pure_den _ k1 (load_denR k2 k3 k4 (pure_den _ (neq_eq _ _) (br_den (fun hb => ret_denO ⟨?_, rfl⟩) (fun hb => ?_))))))
   ·have hne : l[i] ≠ l'[i] := by simpa using hb
    have : l ≠ l' := by rintro rfl; exact hne rfl
    simp [this]
   ·have he : l[i] = l'[i] := by simpa using hb
    refine pure_den _ (add_one (by have := h.lenB; simp [ints] at this; omega)) (count_cont (by simp [Eqs, E]) hlt ⟨rfl, hle, ?_⟩)
    rw [List.take_add_one, List.take_add_one, hor, List.getElem?_eq_getElem hlt, List.getElem?_eq_getElem hlt', he]
  ·have hge : l.length ≤ i := by simpa using hb
   refine ret_denO ⟨?_, rfl⟩
   rw [List.take_of_length_le hge, List.take_of_length_le (by omega)] at hor
   simp [hor]
theorem r_SameItem {H : Heap} {O : Own} {row row' : List Value} {x y : It} (h : ItR H O row x) (h' : ItR H O row' y) : RetO PP F_zeitnotref15_SameItem [.agg row.toArray, .agg row'.toArray] H O (.bool (x == y)) := by
 obtain ⟨s, rfl, hs⟩ := h
 obtain ⟨s', rfl, hs'⟩ := h'
 refine run_zeitnotref15_SameItem (vs := [iV x.player, iV x.id, iV x.card, iV x.trig, s, iV y.player, iV y.id, iV y.card, iV y.trig, s']) (by kernel_rfl) ⟨rfl, rfl, rfl, rfl, hs.one, rfl, rfl, rfl, rfl, hs'.one, trivial⟩ ?_
 simp only [T_zeitnotref15_SameItem]
 have hl := hs.len
 have hl' := hs'.len
 rw [List.length_map] at hl hl'
 repeat (first | refine chkN_den ?_ | refine chkV_den ?_ | refine newbox_den fun _ => ?_ | refine pure_den _ hl ?_ | refine pure_den _ hl' ?_ | refine pure_den _ (neq_eq _ _) ?_ | refine pure_den _ (pick_or _ _) ?_)
 refine br_den (fun hb => ret_denO ⟨?_, rfl⟩) (fun hb => ?_)
 ·have : x ≠ y := by rintro rfl; simp at hb
  simp [this]
 ·simp only [Bool.or_eq_false_iff, bne_eq_false_iff_eq] at hb
  obtain ⟨⟨⟨⟨h1, h2⟩, h3⟩, h4⟩, h5⟩ := hb
  have hlen : x.tgs.length = y.tgs.length := by omega
  have hxy : (x == y) = (x.tgs == y.tgs) := by
   rw [Bool.eq_iff_iff]
   cases x; cases y
   simp only at h1 h2 h3 h4
   subst h1; subst h2; subst h3; subst h4
   simp
  rw [hxy]
  refine count_den x.tgs.length (fun i H' O' => O' = O ∧ Heap.le H H' ∧ x.tgs.take i = y.tgs.take i) ⟨rfl, Heap.le_refl H, by simp⟩ ?_
  rintro i H' O' hi - ⟨rfl, hle, hor⟩
  refine chkN_den (pure_den _ hl (pure_den _ (lss_eq _ _) (br_den (fun hb => ?_) (fun hb => ?_))))
  ·have hlt : i < x.tgs.length := by simpa using hb
   have hlt' : i < y.tgs.length := by omega
   obtain ⟨a, h1, h2, _, h3, h4⟩ := (hs.le hle).idx .i64 i (Tg.row x.tgs[i]) (by simp [hlt])
   obtain ⟨b, k1, k2, _, k3, k4⟩ := (hs'.le hle).idx .i64 i (Tg.row y.tgs[i]) (by simp [hlt'])
   refine chkN_den (pure_den _ h1 (load_denR h2 h3 h4 (chkN_den (pure_den _ k1 (load_denR k2 k3 k4 (raw_denG (tgEq x.tgs[i] y.tgs[i]) (br_den (fun hb => ret_denO ⟨?_, rfl⟩) (fun hb => ?_))))))))
   ·have hne : x.tgs[i] ≠ y.tgs[i] := by simpa using hb
    have : x.tgs ≠ y.tgs := fun e => hne (by simp only [e])
    simp [this]
   ·have he : x.tgs[i] = y.tgs[i] := by simpa using hb
    refine pure_den _ (add_one (by have := hs.lenB; simp at this; omega)) (count_cont (by simp [Eqs, E]) hlt ⟨rfl, hle, ?_⟩)
    rw [List.take_add_one, List.take_add_one, hor, List.getElem?_eq_getElem hlt, List.getElem?_eq_getElem hlt', he]
  ·have hge : x.tgs.length ≤ i := by simpa using hb
   refine ret_denO ⟨?_, rfl⟩
   rw [List.take_of_length_le hge, List.take_of_length_le (by omega)] at hor
   simp [hor]
theorem r_items {H : Heap} {O : Own} {v v' : Value} {l l' : List It} (h : ItsR H O v l) (h' : ItsR H O v' l') : RetO PP F_zeitnotref15_items [v, v'] H O (.bool (l == l')) := by
 have ho := ItsR.one h
 have ho' := ItsR.one h'
 have hl := ItsR.len h
 have hl' := ItsR.len h'
 obtain ⟨rows, hr, hrl, hit⟩ := h
 obtain ⟨rows', hr', hrl', hit'⟩ := h'
 refine run_zeitnotref15_items (vs := [v, v']) (by kernel_rfl) ⟨ho, ho', trivial⟩ ?_
 simp only [T_zeitnotref15_items]
 refine pure_den _ hl (pure_den _ hl' (pure_den _ (neq_eq _ _) (br_den (fun hb => ret_denO ⟨?_, rfl⟩) (fun hb => ?_))))
 ·have : l ≠ l' := by intro e; subst e; simp at hb
  simp [this]
 ·have hlen : l.length = l'.length := by simp at hb; omega
  refine count_den l.length (fun i H' O' => O' = O ∧ Heap.le H H' ∧ l.take i = l'.take i) ⟨rfl, Heap.le_refl H, by simp⟩ ?_
  rintro i H' O' hi - ⟨rfl, hle, hor⟩
  refine pure_den _ hl (pure_den _ (lss_eq _ _) (br_den (fun hb => ?_) (fun hb => ?_)))
  ·have hlt : i < l.length := by simpa using hb
   have hlt' : i < l'.length := by omega
   have hx := (hit i rows[i] l[i] (by simp [hrl, hlt]) (by simp [hlt])).le hle
   have hy := (hit' i rows'[i] l'[i] (by simp [hrl', hlt']) (by simp [hlt'])).le hle
   obtain ⟨a, h1, h2, _, h3, h4⟩ := (hr.le hle).idx .i64 i rows[i] (by simp [hrl, hlt])
   obtain ⟨b, k1, k2, _, k3, k4⟩ := (hr'.le hle).idx .i64 i rows'[i] (by simp [hrl', hlt'])
   have hc := r_SameItem hx hy
   obtain ⟨s, hrow, _⟩ := hx
   obtain ⟨s', hrow', _⟩ := hy
   rw [hrow] at h2 h3 h4 hc
   rw [hrow'] at k2 k3 k4 hc
   refine pure_den _ h1 (load_denR h2 h3 h4 (pure_den _ k1 (load_denR k2 k3 k4 (call_retO hc rfl ⟨rfl, trivial⟩ fun H2 hle2 => pure_den _ (not_eq' _) (br_den (fun hb => ret_denO ⟨?_, rfl⟩) (fun hb => ?_))))))
   ·have hne : l[i] ≠ l'[i] := by simpa using hb
    have : l ≠ l' := by rintro rfl; exact hne rfl
    simp [this]
   ·have he : l[i] = l'[i] := by simpa using hb
    refine pure_den _ (add_one (by have := hr.lenB; omega)) (count_cont (by simp [Eqs, E]) hlt ⟨rfl, Heap.le_trans hle hle2, ?_⟩)
    rw [List.take_add_one, List.take_add_one, hor, List.getElem?_eq_getElem hlt, List.getElem?_eq_getElem hlt', he]
  ·have hge : l.length ≤ i := by simpa using hb
   refine ret_denO ⟨?_, rfl⟩
   rw [List.take_of_length_le hge, List.take_of_length_le (by omega)] at hor
   simp [hor]
/-- A seat's four lists. -/
theorem r_Zones {vl vh vf vg : Value} (s : St) (hl : vl.oneCell' = true) (hh : vh.oneCell' = true) (hf : vf.oneCell' = true) (hg : vg.oneCell' = true) (H : Heap) (O : Own) :
  RetO PP F_zeitnotref15_Zones [.agg (seatC vl vh vf vg s).toArray] H O (.agg #[vl, vh, vf, vg]) := by
 refine run_zeitnotref15_Zones (vs := seatC vl vh vf vg s) (by kernel_rfl) ⟨rfl, rfl, rfl, rfl, rfl, hl, hh, hf, hg, rfl, rfl, rfl, rfl, rfl, trivial⟩ ?_
 simp only [T_zeitnotref15_Zones]
 repeat (first | refine chkN_den ?_ | refine chkV_den ?_ | refine newbox_den fun _ => ?_ | refine pure_den _ (lss_eq _ _) ?_ | refine pure_den _ (gtr_eq _ _) ?_ | refine pure_den _ (leq_eq _ _) ?_ | refine pure_den _ (geq_eq _ _) ?_ | refine pure_den _ (eql_eq _ _) ?_ | refine pure_den _ (neq_eq _ _) ?_ | refine pure_den _ (pick_and _ _) ?_ | refine pure_den _ (pick_or _ _) ?_ | refine pure_den _ (not_eq' _) ?_ | refine pure_den _ (beql_eq _ _) ?_ | refine pure_den _ (bneq_eq _ _) ?_)
 exact ret_denO ⟨rfl, rfl⟩
theorem stR_ones {H : Heap} {O : Own} {vl vh vf vg : Value} {s : St} (h : StR H O vl vh vf vg s) : vl.oneCell' = true ∧ vh.oneCell' = true ∧ vf.oneCell' = true ∧ vg.oneCell' = true := ⟨h.lib.one, h.hand.one, h.field.one, h.grave.one⟩
theorem boardC_ones {H : Heap} {O : Own} {v : BV12} {b : Bd} (h : BdR H O v b) : Ones (boardC v b) := by
 obtain ⟨a1, a2, a3, a4⟩ := stR_ones h.s0
 obtain ⟨b1, b2, b3, b4⟩ := stR_ones h.s1
 exact ⟨h.objs.one, rfl, rfl, rfl, rfl, rfl, a1, a2, a3, a4, rfl, rfl, rfl, rfl, rfl, rfl, rfl, rfl, rfl, rfl, b1, b2, b3, b4, rfl, rfl, rfl, rfl, rfl, ItsR.one h.stack, ItsR.one h.queue, h.att.one, h.blocks.one, rfl, rfl, rfl, rfl, rfl, trivial⟩
theorem ones_app : ∀ {a b : List Value}, Ones a → Ones b → Ones (a ++ b)
 | [], _, _, h => h
 | _ :: _, _, h, h' => ⟨h.1, ones_app h.2 h'⟩
/-- Are the numbers of two seats the same? -/
def stPlain (s t : St) : Bool :=
 !((((((((s.life != t.life || !(s.p0 == t.p0 && (s.p1 == t.p1 && (s.p2 == t.p2 && s.p3 == t.p3)))) || !(s.empty == t.empty)) || !(s.played == t.played)) || !(s.kept == t.kept)) || s.mull != t.mull) || s.acts != t.acts)))
theorem stEq (s t : St) : (s == t) = (stPlain s t && (s.lib == t.lib && (s.hand == t.hand && (s.field == t.field && s.grave == t.grave)))) := by
 cases s; cases t
 rw [Bool.eq_iff_iff]
 simp [stPlain]
 constructor
 ·rintro ⟨h1, h2, h3, h4, h5, h6, h7, h8, h9, h10, h11, h12, h13, h14⟩; simp_all
 ·rintro ⟨⟨⟨⟨⟨⟨⟨h1, h2, h3, h4, h5⟩, h6⟩, h7⟩, h8⟩, h9⟩, h10⟩, h11, h12, h13, h14⟩; simp_all
def bdPlain (a b : Bd) : Bool := a.turn == b.turn && (a.active == b.active && (a.phase == b.phase && (a.holder == b.holder && a.passes == b.passes)))
theorem bdEq (a b : Bd) : (a == b) = (a.stack == b.stack && (a.queue == b.queue && (a.att == b.att && (bdPlain a b && (a.objs == b.objs && (a.blocks == b.blocks && (a.s0 == b.s0 && a.s1 == b.s1))))))) := by
 cases a; cases b
 rw [Bool.eq_iff_iff]
 simp [bdPlain]
 constructor
 ·rintro ⟨h1, h2, h3, h4, h5, h6, h7, h8, h9, h10, h11, h12⟩; simp_all
 ·rintro ⟨h1, h2, h3, ⟨h4, h5, h6, h7, h8⟩, h9, h10, h11, h12⟩; simp_all
theorem neB {α : Type} [BEq α] [LawfulBEq α] {a b : α} (h : a ≠ b) : (Value.bool false : Value) = .bool (a == b) := by simp [h]
theorem r_Same {H : Heap} {O : Own} {v w : BV12} {a b : Bd} (h : BdR H O v a) (h' : BdR H O w b) : RetO PP F_zeitnotref15_Same [.agg (boardC v a).toArray, .agg (boardC w b).toArray] H O (.bool (a == b)) := by
 refine run_zeitnotref15_Same (vs := boardC v a ++ boardC w b) (by kernel_rfl) (ones_app (boardC_ones h) (boardC_ones h')) ?_
 simp only [T_zeitnotref15_Same]
 have lo := h.objs.len
 have lo' := h'.objs.len
 have lb := h.blocks.len
 have lb' := h'.blocks.len
 rw [List.length_map] at lo lo' lb lb'
 refine newbox_den fun r0 => newbox_den fun r1 => chkN_den (pure_den _ lo (chkN_den (pure_den _ lo' (pure_den _ (neq_eq _ _) (br_den (fun hb => ret_denO ⟨neB (by rintro rfl; simp at hb), rfl⟩) (fun hob => ?_))))))
 refine chkN_den (chkN_den (call_retO (r_items h.stack h'.stack) rfl ⟨rfl, trivial⟩ fun H1 l1 => pure_den _ (not_eq' _) (br_den (fun hb => ret_denO ⟨neB (by rintro rfl; simp at hb), rfl⟩) (fun hstack => ?_))))
 replace h := h.le l1
 replace h' := h'.le l1
 refine chkN_den (chkN_den (call_retO (r_items h.queue h'.queue) rfl ⟨rfl, trivial⟩ fun H2 l2 => pure_den _ (not_eq' _) (br_den (fun hb => ret_denO ⟨neB (by rintro rfl; simp at hb), rfl⟩) (fun hqueue => ?_))))
 replace h := h.le l2
 replace h' := h'.le l2
 refine chkN_den (chkN_den (call_retO (r_Ints h.att h'.att) rfl ⟨rfl, trivial⟩ fun H3 l3 => pure_den _ (not_eq' _) ?_))
 replace h := h.le l3
 replace h' := h'.le l3
 repeat (first | refine chkN_den ?_ | refine chkV_den ?_ | refine pure_den _ lb ?_ | refine pure_den _ lb' ?_ | refine pure_den _ (neq_eq _ _) ?_ | refine pure_den _ (pick_or _ _) ?_)
 refine br_den (fun hb => ret_denO ⟨neB (by rintro rfl; simp at hb), rfl⟩) (fun hpl => ?_)
 have hol : a.objs.length = b.objs.length := by simp at hob; omega
 -- objects
 refine count_den a.objs.length (fun i H' O' => O' = O ∧ Heap.le H3 H' ∧ a.objs.take i = b.objs.take i) ⟨rfl, Heap.le_refl H3, by simp⟩ ?_
 rintro i H4 O' hi - ⟨rfl, l4, hor⟩
 refine chkN_den (pure_den _ lo (pure_den _ (lss_eq _ _) (br_den (fun hb => ?_) (fun hb => ?_))))
 ·have hlt : i < a.objs.length := by simpa using hb
  have hlt' : i < b.objs.length := by omega
  obtain ⟨p, h1, h2, _, h3, h4⟩ := (h.objs.le l4).idx .i64 i (Ob.row a.objs[i]) (by simp [hlt])
  obtain ⟨q, k1, k2, _, k3, k4⟩ := (h'.objs.le l4).idx .i64 i (Ob.row b.objs[i]) (by simp [hlt'])
  refine chkN_den (pure_den _ h1 (load_denR h2 h3 h4 (chkN_den (pure_den _ k1 (load_denR k2 k3 k4 (raw_denG (obEq a.objs[i] b.objs[i]) (br_den (fun hb => ret_denO ⟨?_, rfl⟩) (fun hb => ?_))))))))
  ·have hne : a.objs[i] ≠ b.objs[i] := by simpa using hb
   exact neB fun e => hne (by simp only [e])
  ·have he : a.objs[i] = b.objs[i] := by simpa using hb
   refine pure_den _ (add_one (by have := h.objs.lenB; simp at this; omega)) (count_cont (by simp [Eqs, E]) hlt ⟨rfl, l4, ?_⟩)
   rw [List.take_add_one, List.take_add_one, hor, List.getElem?_eq_getElem hlt, List.getElem?_eq_getElem hlt', he]
 have hobj : a.objs = b.objs := by
  have hge : a.objs.length ≤ i := by simpa using hb
  rwa [List.take_of_length_le hge, List.take_of_length_le (by omega)] at hor
 clear hb hor hi
 replace h := h.le l4
 replace h' := h'.le l4
 have hbl : a.blocks.length = b.blocks.length := by simp at hpl; omega
 -- blocks
 refine count_den a.blocks.length (fun i H' O'' => O'' = O' ∧ Heap.le H4 H' ∧ a.blocks.take i = b.blocks.take i) ⟨rfl, Heap.le_refl H4, by simp⟩ ?_
 rintro i H5 O' hi - ⟨rfl, l5, hor⟩
 refine chkN_den (pure_den _ lb (pure_den _ (lss_eq _ _) (br_den (fun hb => ?_) (fun hb => ?_))))
 ·have hlt : i < a.blocks.length := by simpa using hb
  have hlt' : i < b.blocks.length := by omega
  obtain ⟨p, h1, h2, _, h3, h4⟩ := (h.blocks.le l5).idx .i64 i (Bl.row a.blocks[i]) (by simp [hlt])
  obtain ⟨q, k1, k2, _, k3, k4⟩ := (h'.blocks.le l5).idx .i64 i (Bl.row b.blocks[i]) (by simp [hlt'])
  refine chkN_den (pure_den _ h1 (load_denR h2 h3 h4 (chkN_den (pure_den _ k1 (load_denR k2 k3 k4 (raw_denG (blEq a.blocks[i] b.blocks[i]) (br_den (fun hb => ret_denO ⟨?_, rfl⟩) (fun hb => ?_))))))))
  ·have hne : a.blocks[i] ≠ b.blocks[i] := by simpa using hb
   exact neB fun e => hne (by simp only [e])
  ·have he : a.blocks[i] = b.blocks[i] := by simpa using hb
   refine pure_den _ (add_one (by have := h.blocks.lenB; simp at this; omega)) (count_cont (by simp [Eqs, E]) hlt ⟨rfl, l5, ?_⟩)
   rw [List.take_add_one, List.take_add_one, hor, List.getElem?_eq_getElem hlt, List.getElem?_eq_getElem hlt', he]
 have hblk : a.blocks = b.blocks := by
  have hge : a.blocks.length ≤ i := by simpa using hb
  rwa [List.take_of_length_le hge, List.take_of_length_le (by omega)] at hor
 clear hb hor hi
 replace h := h.le l5
 replace h' := h'.le l5
 -- seats
 obtain ⟨o1, o2, o3, o4⟩ := stR_ones h.s0
 obtain ⟨o1', o2', o3', o4'⟩ := stR_ones h'.s0
 obtain ⟨p1, p2, p3, p4⟩ := stR_ones h.s1
 obtain ⟨p1', p2', p3', p4'⟩ := stR_ones h'.s1
 repeat (first | refine chkN_den ?_ | refine chkV_den ?_ | refine newbox_den fun _ => ?_ | refine pure_den _ (neq_eq _ _) ?_ | refine raw_denG (manaEq _ _ _ _ _ _ _ _) ?_ | refine pure_den _ (bneq_eq _ _) ?_ | refine pure_den _ (pick_or _ _) ?_)
 refine br_den (fun hb => ret_denO ⟨neB (by rintro rfl; simp at hb), rfl⟩) (fun hs0 => ?_)
 refine chkN_den (chkN_den (call_retO (r_Zones a.s0 o1 o2 o3 o4 _ _) rfl ⟨o1, o2, o3, o4, trivial⟩ fun H6 l6 => call_retO (r_Zones b.s0 o1' o2' o3' o4' _ _) rfl ⟨o1', o2', o3', o4', trivial⟩ fun H7 l7 => ?_))
 replace h := (h.le l6).le l7
 replace h' := (h'.le l6).le l7
 refine newbox_den fun _ => newbox_den fun _ => chkN_den (chkN_den (chkN_den (chkN_den (call_retO (r_Ints h.s0.lib h'.s0.lib) rfl ⟨rfl, trivial⟩ fun H8 l8 => pure_den _ (not_eq' _) (br_den (fun hb => ret_denO ⟨neB (by rintro rfl; simp at hb), rfl⟩) (fun hz1 => ?_))))))
 replace h := h.le l8
 replace h' := h'.le l8
 refine chkN_den (chkN_den (call_retO (r_Ints h.s0.hand h'.s0.hand) rfl ⟨rfl, trivial⟩ fun H9 l9 => pure_den _ (not_eq' _) (br_den (fun hb => ret_denO ⟨neB (by rintro rfl; simp at hb), rfl⟩) (fun hz2 => ?_))))
 replace h := h.le l9
 replace h' := h'.le l9
 refine chkN_den (chkN_den (call_retO (r_Ints h.s0.field h'.s0.field) rfl ⟨rfl, trivial⟩ fun H10 l10 => pure_den _ (not_eq' _) (br_den (fun hb => ret_denO ⟨neB (by rintro rfl; simp at hb), rfl⟩) (fun hz3 => ?_))))
 replace h := h.le l10
 replace h' := h'.le l10
 refine chkN_den (chkN_den (call_retO (r_Ints h.s0.grave h'.s0.grave) rfl ⟨rfl, trivial⟩ fun H11 l11 => pure_den _ (not_eq' _) (br_den (fun hb => ret_denO ⟨neB (by rintro rfl; simp at hb), rfl⟩) (fun hz4 => ?_))))
 replace h := h.le l11
 replace h' := h'.le l11
 repeat (first | refine chkN_den ?_ | refine chkV_den ?_ | refine newbox_den fun _ => ?_ | refine pure_den _ (neq_eq _ _) ?_ | refine raw_denG (manaEq _ _ _ _ _ _ _ _) ?_ | refine pure_den _ (bneq_eq _ _) ?_ | refine pure_den _ (pick_or _ _) ?_)
 refine br_den (fun hb => ret_denO ⟨neB (by rintro rfl; simp at hb), rfl⟩) (fun hs1 => ?_)
 refine chkN_den (chkN_den (call_retO (r_Zones a.s1 p1 p2 p3 p4 _ _) rfl ⟨p1, p2, p3, p4, trivial⟩ fun H12 l12 => call_retO (r_Zones b.s1 p1' p2' p3' p4' _ _) rfl ⟨p1', p2', p3', p4', trivial⟩ fun H13 l13 => ?_))
 replace h := (h.le l12).le l13
 replace h' := (h'.le l12).le l13
 refine newbox_den fun _ => newbox_den fun _ => chkN_den (chkN_den (chkN_den (chkN_den (call_retO (r_Ints h.s1.lib h'.s1.lib) rfl ⟨rfl, trivial⟩ fun H8 l8 => pure_den _ (not_eq' _) (br_den (fun hb => ret_denO ⟨neB (by rintro rfl; simp at hb), rfl⟩) (fun hy1 => ?_))))))
 replace h := h.le l8
 replace h' := h'.le l8
 refine chkN_den (chkN_den (call_retO (r_Ints h.s1.hand h'.s1.hand) rfl ⟨rfl, trivial⟩ fun H9 l9 => pure_den _ (not_eq' _) (br_den (fun hb => ret_denO ⟨neB (by rintro rfl; simp at hb), rfl⟩) (fun hy2 => ?_))))
 replace h := h.le l9
 replace h' := h'.le l9
 refine chkN_den (chkN_den (call_retO (r_Ints h.s1.field h'.s1.field) rfl ⟨rfl, trivial⟩ fun H10 l10 => pure_den _ (not_eq' _) (br_den (fun hb => ret_denO ⟨neB (by rintro rfl; simp at hb), rfl⟩) (fun hy3 => ?_))))
 replace h := h.le l10
 replace h' := h'.le l10
 refine chkN_den (chkN_den (call_retO (r_Ints h.s1.grave h'.s1.grave) rfl ⟨rfl, trivial⟩ fun H11 l11 => pure_den _ (not_eq' _) (br_den (fun hb => ret_denO ⟨neB (by rintro rfl; simp at hb), rfl⟩) (fun hy4 => ?_))))
 refine ret_denO ⟨?_, rfl⟩
 simp only [Bool.not_eq_false', Bool.or_eq_false_iff, bne_eq_false_iff_eq, beq_iff_eq] at hstack hqueue hpl hz1 hz2 hz3 hz4 hy1 hy2 hy3 hy4
 have e : a = b := by
  have e0 : (a.s0 == b.s0) = true := by
   rw [stEq, hz1, hz2, hz3, hz4]
   simp only [stPlain, hs0]
   simp
  have e1 : (a.s1 == b.s1) = true := by
   rw [stEq, hy1, hy2, hy3, hy4]
   simp only [stPlain, hs1]
   simp
  have : (a == b) = true := by
   rw [bdEq, e0, e1, hobj, hblk, hstack, hqueue]
   simp only [bdPlain]
   simp_all
  simpa using this
 simp [e]
end Go.Proofs.YtjaegdkkiefchaaGreatDoor
namespace Go.Proofs.YtjaegdkkiefchaaGreatDoor
open Go Go.Sx
set_option maxRecDepth 100000
set_option maxHeartbeats 1000000
/-- A loop that counts up to n, and carries other values. -/
abbrev IX (n : Nat) (R : Nat → List Value → Heap → Own → Prop) : List Value → Heap → Own → Prop := fun vs H O => ∃ (i : Nat) (xs : List Value), vs = iV i :: xs ∧ i ≤ n ∧ R i xs H O
abbrev MX (n : Nat) : List Value → Heap → Own → Nat := fun vs _ _ => match g vs 0 with | .int _ k => n - k.toNat | _ => 0
theorem countX_den {P : Program} {lab key : Nat} {init : List Value} {body : (List Value → Heap → Own → Prop) → List Value → Tree} {H : Heap} {O : Own} {Q : Value → Heap → Own → Prop} (n : Nat) (R : Nat → List Value → Heap → Own → Prop)
  (h0 : R 0 init H O) (step : ∀ i xs H' O', i ≤ n → xs.length = init.length → Ones xs → Heap.le H H' → R i xs H' O' → (body (Back (IX n R) (MX n) (n - i)) (iV i :: xs)).den P Q H' O') :
  (Tree.loop lab key (iV 0 :: init) body).den P Q H O := by
 refine loop_den (IX n R) (MX n) ⟨0, init, rfl, Nat.zero_le _, h0⟩ ?_
 rintro vs H' O' hl ho hle ⟨i, xs, rfl, hi, hr⟩
 exact step i xs H' O' hi (by simpa using hl) ho.2 hle hr
theorem countX_cont {P : Program} {lab n i : Nat} {R : Nat → List Value → Heap → Own → Prop} {xs : List Value} {eqs : List (List Value × List Value)} {H : Heap} {O : Own} {Q : Value → Heap → Own → Prop} (he : Eqs eqs) (hi : i < n) (hr : R (i + 1) xs H O) :
  (Tree.cont lab (Back (IX n R) (MX n) (n - i)) (iV ((i + 1 : Nat) : Int) :: xs) eqs).den P Q H O := by
 refine cont_den he ⟨i + 1, xs, rfl, hi, hr⟩ ?_
 show n - ((i + 1 : Nat) : Int).toNat < n - i
 simp; omega
/-- What is still owned is given up. -/
theorem ret_drop {P : Program} {v : Value} {H : Heap} {O : Own} {Q : Value → Heap → Own → Prop} (h : Q v H []) : (Tree.ret v []).den P Q H O := fun _ => ⟨H, [], Ghost.drop _ _, h⟩
theorem Sl.block1 {H : Heap} {r size : Nat} {row : List Value} {T : TypeId} (h : H r = some (.cells row.toArray T (0, 0))) (hl : row.length = size) (ho : Ones row) : Sl H size (.slice (some ⟨r, 0, none⟩) 1 1) [row] := by
 refine ⟨_, _, rfl, Nat.le_refl _, by simp, fun _ => ⟨_, rfl, ?_⟩⟩
 intro i x hx
 cases i with
 | succ i => simp at hx
 | zero =>
  simp at hx
  subst hx
  refine ⟨?_, hl, ho⟩
  rw [add_none, Nat.zero_mul, Nat.add_zero, read_block h (by omega)]
  simp [← hl]
def zSt (life : Int) (lib : List Int) : St := ⟨life, 0, 0, 0, 0, lib, [], [], [], false, false, false, 0, 0⟩
def zBd : Bd := ⟨[], zSt 0 [], zSt 0 [], [], [], [], [], 0, 0, 0, 0, 0⟩
abbrev nilS : Value := .slice none 0 0
def nilV : BV12 := ⟨nilS, nilS, nilS, nilS, nilS, nilS, nilS, nilS, nilS, nilS, nilS, nilS, nilS⟩
theorem pure_denG {P : Program} {gd : Gd} {op : POp} {args : List Value} {k : Value → Tree} {H : Heap} {O : Own} {Q : Value → Heap → Own → Prop} {v : Value} (h : evalPure op args = some v) (h1 : v.oneCell' = true) (hk : (k v).den P Q H O) :
  (Tree.pure gd op args k).den P Q H O := ⟨v, fun _ => h, .inr h1, hk⟩
end Go.Proofs.YtjaegdkkiefchaaGreatDoor
namespace Go.Sx
open Go
/-- Entries whose values are numbers. -/
def entsOf (l : List (Int × Int)) : Ents := l.map fun p => (p.1, iV p.2)
def lookI (l : List (Int × Int)) (k : Int) : Option Int := (l.find? fun p => k == p.1).map (·.2)
theorem lookM_ents (l : List (Int × Int)) (k : Int) : lookM (entsOf l) k = (lookI l k).map iV := by
 induction l with
 | nil => rfl
 | cons p r ih =>
  by_cases h : k = p.1
  ·simp [lookM, lookI, entsOf, h]
  ·simp only [lookM, lookI, entsOf, List.map_cons, List.find?_cons] at ih ⊢
   have hb : (k == p.1) = false := by simpa using h
   simp only [hb]
   exact ih
theorem lookI_none {l : List (Int × Int)} {k : Int} : lookI l k = none ↔ k ∉ l.map (·.1) := by
 induction l with
 | nil => simp [lookI]
 | cons p r ih =>
  by_cases h : k = p.1
  ·simp [lookI, h]
  ·have hb : (k == p.1) = false := by simpa using h
   simp only [lookI, List.find?_cons, hb, List.map_cons, List.mem_cons, not_or] at ih ⊢
   rw [ih]; simp [h]
theorem lookI_some {l : List (Int × Int)} {k v : Int} (hn : (l.map (·.1)).Nodup) : lookI l k = some v ↔ (k, v) ∈ l := by
 induction l with
 | nil => simp [lookI]
 | cons p r ih =>
  simp only [List.map_cons, List.nodup_cons] at hn
  by_cases h : k = p.1
  ·simp only [lookI, List.find?_cons, h, beq_self_eq_true, Option.map_some, Option.some.injEq, List.mem_cons]
   constructor
   ·rintro rfl; left; rfl
   ·rintro (h' | h')
    ·rw [← h']
    ·exact absurd (List.mem_map_of_mem (f := Prod.fst) h') hn.1
  ·have hb : (k == p.1) = false := by simpa using h
   have := ih hn.2
   simp only [lookI, List.find?_cons, hb] at this ⊢
   rw [this]
   simp only [List.mem_cons]
   constructor
   ·exact .inr
   ·rintro (h' | h')
    ·exact absurd (congrArg Prod.fst h') h
    ·exact h'
theorem updM_new {m : Ents} {k : Int} {v : Value} (h : lookM m k = none) : updM m k v = m ++ [(k, v)] := by
 refine updM_none ?_
 rw [List.findIdx?_eq_none_iff]
 intro p hp
 simp only [lookM, Option.map_eq_none_iff, List.find?_eq_none] at h
 simpa using h p hp
theorem upd_ents {l : List (Int × Int)} {k v : Int} (h : k ∉ l.map (·.1)) : updM (entsOf l) k (iV v) = entsOf (l ++ [(k, v)]) := by
 rw [updM_new (by rw [lookM_ents, lookI_none.2 h]; rfl)]
 simp [entsOf]
def pairsS (s : St) (p : Int) : List (Int × Int) := (s.lib ++ (s.hand ++ (s.field ++ s.grave))).map fun i => (i, p)
def cardsOn (l : List It) : List It := l.filter fun x => decide (x.trig < 0)
def owned (l : List It) : List (Int × Int) := (cardsOn l).map fun x => (x.id, x.player)
def carded (l : List It) : List (Int × Int) := (cardsOn l).map fun x => (x.id, x.card)
def pairsB (b : Bd) : List (Int × Int) := pairsS b.s0 0 ++ (pairsS b.s1 1 ++ owned b.stack)
def prevBad (prev : Option Int) (id : Int) : Bool := match prev with | some p => decide (p ≥ id) | none => false
/-- An object, and the one before it. -/
def objBad (ps cs : List (Int × Int)) (prev : Option Int) (valid : Bool) (o : Ob) : Bool :=
 !valid || prevBad prev o.id || (lookI ps o.id).isNone || ((lookI ps o.id).getD 0 != o.owner) || ((lookI cs o.id).isSome && ((lookI cs o.id).getD 0 != o.card))
theorem owned_append (l r : List It) : owned (l ++ r) = owned l ++ owned r := by simp only [owned, cardsOn, List.filter_append, List.map_append]
theorem carded_append (l r : List It) : carded (l ++ r) = carded l ++ carded r := by simp only [carded, cardsOn, List.filter_append, List.map_append]
theorem owned_one {x : It} (h : x.trig < 0) : owned [x] = [(x.id, x.player)] := by simp only [owned, cardsOn, List.filter_cons, h, decide_true, if_true, List.filter_nil, List.map_cons, List.map_nil]
theorem carded_one {x : It} (h : x.trig < 0) : carded [x] = [(x.id, x.card)] := by simp only [carded, cardsOn, List.filter_cons, h, decide_true, if_true, List.filter_nil, List.map_cons, List.map_nil]
theorem owned_none {x : It} (h : ¬ x.trig < 0) : owned [x] = [] := by simp only [owned, cardsOn, List.filter_cons, h, decide_false, Bool.false_eq_true, if_false, List.filter_nil, List.map_nil]
theorem carded_none {x : It} (h : ¬ x.trig < 0) : carded [x] = [] := by simp only [carded, cardsOn, List.filter_cons, h, decide_false, Bool.false_eq_true, if_false, List.filter_nil, List.map_nil]
def objsGo (val : Ob → Bool) (ps cs : List (Int × Int)) : Option Int → List Ob → Bool
 | _, [] => true
 | prev, o :: r => !objBad ps cs prev (val o) o && objsGo val ps cs (some o.id) r
def placedB (val : Ob → Bool) (b : Bd) : Bool := decide ((pairsB b).map (·.1)).Nodup && (objsGo val (pairsB b) (carded b.stack) none b.objs && decide ((pairsB b).length = b.objs.length))
def prevId (l : List Ob) (i : Nat) : Option Int := if i = 0 then none else (l[i - 1]?).map (·.id)
theorem prev_succ {l : List Ob} {i : Nat} (h : i < l.length) : prevId l (i + 1) = some l[i].id := by simp [prevId, h]
def blkGo (att other : List Int) : List Int → List Int → List Bl → Bool
 | _, _, [] => true
 | ua, ub, x :: r => (!ua.contains x.attacker && att.contains x.attacker && (!ub.contains x.blocker && other.contains x.blocker)) && blkGo att other (x.attacker :: ua) (x.blocker :: ub) r
def fightsB (own other att : List Int) (bl : List Bl) : Bool := decide att.Nodup && (att.all (fun x => own.contains x) && blkGo att other [] [] bl)
/-- What the map of the seen says. -/
def seenP (att ua ub : List Int) (k : Int) : Bool := decide ((k ∈ att ∧ k ∉ ua) ∨ -k ∈ ub)
theorem seen_upd {att ua ub : List Int} {m : Ents} {a c : Int} (h : ∀ k, (lookM m k).getD (.bool false) = .bool (seenP att ua ub k)) (hub : ∀ x ∈ ub, 0 < x) (ha : 0 < a) (hc : 0 < c) :
  ∀ k, (lookM (updM (updM m a (.bool false)) (-c) (.bool true)) k).getD (.bool false) = .bool (seenP att (a :: ua) (c :: ub) k) := by
 intro k
 rw [lookM_upd]
 by_cases h1 : k = -c
 ·rw [if_pos h1]
  have : seenP att (a :: ua) (c :: ub) k = true := by
   simp only [seenP, decide_eq_true_eq]
   right
   rw [h1]; simp
  rw [this]; rfl
 ·rw [if_neg h1, lookM_upd]
  by_cases h2 : k = a
  ·rw [if_pos h2]
   have : seenP att (a :: ua) (c :: ub) k = false := by
    simp only [seenP, decide_eq_false_iff_not, not_or, not_and]
    refine ⟨fun _ hn => hn (by rw [h2]; simp), ?_⟩
    rw [h2, List.mem_cons]
    rintro (h3 | h3)
    ·omega
    ·have := hub _ h3; omega
   rw [this]; rfl
  ·rw [if_neg h2, h k]
   congr 1
   simp only [seenP, List.mem_cons, not_or]
   have : ¬ (-k = c) := by omega
   simp [this, h2]
end Go.Sx
namespace Go.Proofs.YtjaegdkkiefchaaGreatDoor
open Go Go.Sx
set_option maxRecDepth 100000
set_option maxHeartbeats 1000000
/-- The end of a function that owned more for itself. -/
theorem ret_to {P : Program} {v : Value} {H : Heap} {O X Ox : Own} {Q : Value → Heap → Own → Prop} (hO : O.Perm (X ++ Ox)) (h : Q v H Ox) : (Tree.ret v []).den P Q H O := by
 intro _
 exact ⟨H, Ox, (Ghost.perm hO).trans (Ghost.sub (List.sublist_append_right X Ox)), h⟩
theorem zeroI : ∀ w, (zeroValue Ty_int).run PP w = .ok (iV 0) w := by
 intro w
 have : (PP.info? Ty_int).bind (·.zero) = some (iV 0) := by kernel_rfl
 simp only [Option.bind_eq_some_iff] at this
 obtain ⟨i, hi, hz⟩ := this
 simp [zeroValue, typeInfo, hi, hz]
theorem mapII : PP.underlying Ty_map_int_int = some (.map Ty_int Ty_int) := by kernel_rfl
theorem intI : PP.underlying Ty_int = some (.int .i64) := by kernel_rfl
theorem c_placed_1 {m : Ents} {mv : Value} {Om : Own} (hm : OMap .i64 mv m Om) (r1 : Nat) (id player : Int) (H : Heap) (h1 : ((lookM m id).getD (iV 0)).oneCell' = true) :
  Triple PP F_board_placed_1 [iV id, iV player, .pointer (some ⟨r1, 0, none⟩)] H ((r1, .cells #[mv] Ty_map_int_int (0, 0)) :: Om) fun v _ O' => v = .bool (lookM m id).isNone ∧ ∃ Om', O' = (r1, .cells #[mv] Ty_map_int_int (0, 0)) :: Om' ∧ OMap .i64 mv (updM m id (iV player)) Om' := by
 refine run_board_placed_1 (vs := [iV id, iV player, .pointer (some ⟨r1, 0, none⟩)]) (by kernel_rfl) ⟨rfl, rfl, rfl, trivial⟩ ?_
 simp only [T_board_placed_1]
 have hr : ∀ (H' : Heap) (X : Own), Reads H' ((r1, .cells #[mv] Ty_map_int_int (0, 0)) :: X) (.pointer (some ⟨r1, 0, none⟩)) 1 [mv] := fun H' X => .inr ⟨⟨r1, 0, none⟩, #[mv], Ty_map_int_int, rfl, rfl, by simp, rfl, rfl⟩
 refine load_denR (hr _ _) rfl ⟨hm.one, trivial⟩ ?_
 refine call_lookup mapII intI zeroI hm (fun p hp => List.mem_cons_of_mem _ hp) id h1 ?_
 refine load_denR (hr _ _) rfl ⟨hm.one, trivial⟩ ?_
 refine call_update mapII intI hm (O2 := [(r1, .cells #[mv] Ty_map_int_int (0, 0))]) List.perm_append_comm id (iV player) ?_
 intro r Om' hm' _
 refine pure_den _ (not_eq' _) ?_
 intro _
 refine ⟨H, (r1, .cells #[mv] Ty_map_int_int (0, 0)) :: Om', Ghost.perm (show (Om' ++ [(r1, Obj.cells #[mv] Ty_map_int_int (0, 0))]).Perm ([(r1, Obj.cells #[mv] Ty_map_int_int (0, 0))] ++ Om') from List.perm_append_comm), ?_, Om', rfl, hm'⟩
 cases lookM m id <;> rfl
/-- len(m) -/
theorem call_mlen {t ty : TypeId} {m : Ents} {mv : Value} {Om O : Own} {H : Heap} {K : List Value → List (List Value) → Heap → Own → Prop} (hm : OMap .i64 mv m Om) (hsub : ∀ p ∈ Om, p ∈ O) (hk : K [iV m.length] [] H O) (ht : (match PP.underlying t with | some (.map _ _) => true | _ => false) = true := by kernel_rfl) :
  CallD (fun H1 O1 R => OpTriple PP ((PrimOp.bi .len #[t] ty).sem [mv]) H1 O1 R) false [] [] .one K H O := by
 refine prim_rd (v := iV m.length) ?_ rfl ⟨rfl, trivial⟩ hk
 intro w F hmo
 obtain ⟨r, es, clock, rfl, rfl, he⟩ := hm
 have hrow := (hmo.own (r, .map es clock) (List.mem_append_left _ (hsub _ (by simp)))).1
 have hg : (getObj r).run PP w = .ok (.map es clock) w := by simp [getObj, Sem.run, hrow]
 have hlen : es.size = m.length := by have := congrArg List.length he; simpa using this
 cases hu : PP.underlying t with
 | none => rw [hu] at ht; cases ht
 | some d =>
  cases d with
  | map kt et =>
   have : (Builtin.len_ #[t] ty #[.map (some r)]).run PP w = .ok (iV m.length) w := by
    simp only [Builtin.len_]
    simp [run_underlying hu, hg, hlen, goInt]
   simp only [PrimOp.sem, builtin, Sem.run_bind]
   rw [this]; rfl
  | _ => rw [hu] at ht; cases ht
/-- The ids of one list are put into the map. -/
theorem put_den {lab key : Nat} {lv mv n0 : Value} {l : List Int} {pl : Int} {r1 : Nat} {H : Heap} {O Om Ox : Own} {pre : List (Int × Int)} {Q : Value → Heap → Own → Prop} {rest : List Value → Tree}
    {eqs : (List Value → Heap → Own → Prop) → List Value → Value → List Value → List Value → List (List Value) → Value → Value → List (List Value × List Value)}
    (hl : RSl H Ox 1 lv (ints l)) (hn : n0 = iV l.length) (hm : OMap .i64 mv (entsOf pre) Om) (hO : O.Perm (Om ++ Ox)) (hnd : (pre.map (·.1)).Nodup)
    (heq : ∀ C a b c d e f g, Eqs (eqs C a b c d e f g))
    (bad : ∀ H', Heap.le H H' → ¬ ((pre ++ l.map fun i => (i, pl)).map (·.1)).Nodup → Q (.bool false) H' Ox)
    (good : ∀ H' O' Om', Heap.le H H' → ((pre ++ l.map fun i => (i, pl)).map (·.1)).Nodup → OMap .i64 mv (entsOf (pre ++ l.map fun i => (i, pl))) Om' → O'.Perm (Om' ++ Ox) → (rest [iV l.length, mv]).den PP Q H' O') :
    (Tree.loop lab key [iV 0, mv] fun C l3 =>
      .pure [] (.bin .lss .int) [(g l3 0), n0] fun v4 =>
      .br v4 (
        .pure [] (.idx 1) [lv, (g l3 0)] fun v5 =>
        .load [] v5 1 fun l6 =>
        .call false F_board_placed_1 [(g l6 0), iV pl, (.pointer (some ⟨r1, 0, none⟩))] [] [⟨r1, Ty_map_int_int, [(g l3 1)]⟩] .one fun l7 c7 =>
        .pure [] .not [(g l7 0)] fun v8 =>
        .br v8 (
          .ret (.bool false) []) (
          .pure [] (.bin .add .int) [(g l3 0), iV 1] fun v9 =>
          .cont lab C [v9, (g (c7.getD 0 []) 0)] (eqs C l3 v5 l6 l7 c7 v8 v9))) (rest l3)).den PP Q H O := by
  subst hn
  refine countX_den l.length (fun i xs H' O' => xs = [mv] ∧ Heap.le H H' ∧ ∃ Om', O'.Perm (Om' ++ Ox) ∧ OMap .i64 mv (entsOf (pre ++ (l.take i).map fun i => (i, pl))) Om' ∧ ((pre ++ (l.take i).map fun i => (i, pl)).map (·.1)).Nodup)
    ⟨rfl, Heap.le_refl H, Om, hO, by simpa using hm, by simpa using hnd⟩ ?_
  rintro i xs H' O' hi - - - ⟨rfl, hle, Om', hO', hm', hnd'⟩
  refine pure_den _ (lss_eq _ _) (br_den (fun hb => ?_) (fun hb => ?_))
  · have hlt : i < l.length := by simpa using hb
    obtain ⟨a, h1, h2, _, h3, h4⟩ := ((hl.le hle).own (fun p hp => hO'.mem_iff.2 (List.mem_append_right Om' hp))).idx .i64 i [iV l[i]] (by simp [ints, hlt])
    refine pure_den _ h1 (load_denR h2 h3 h4 ?_)
    have hone : ((lookM (entsOf (pre ++ (l.take i).map fun i => (i, pl))) l[i]).getD (iV 0)).oneCell' = true := by
      rw [lookM_ents]; cases lookI (pre ++ (l.take i).map fun i => (i, pl)) l[i] <;> rfl
    have hc := c_placed_1 hm' r1 l[i] pl H' hone
    intro _
    refine ⟨H', Om', Ox, _, Ghost.perm hO', hc, ?_⟩
    rintro v H2 O2 ⟨rfl, Om2, rfl, hm2⟩ hle2
    refine ⟨[_], [[mv]], Om2, rfl, ⟨rfl, trivial⟩, ⟨rfl, ⟨hm2.one, trivial⟩, trivial⟩, rfl, ?_⟩
    refine pure_den _ (not_eq' _) (br_den (fun hb => ?_) (fun hb => ?_))
    · have hin : l[i] ∈ (pre ++ (l.take i).map fun i => (i, pl)).map (·.1) := by
        rw [lookM_ents] at hb
        simp only [Bool.not_eq_true', Option.isNone_map] at hb
        rcases Classical.em (l[i] ∈ (pre ++ (l.take i).map fun i => (i, pl)).map (·.1)) with h | h
        · exact h
        · rw [lookI_none.2 h] at hb; cases hb
      refine ret_to (List.Perm.refl _) (bad H2 (Heap.le_trans hle hle2) ?_)
      intro hnd2
      have e : pre ++ l.map (fun i => (i, pl)) = (pre ++ (l.take i).map fun i => (i, pl)) ++ ((l[i], pl) :: (l.drop (i + 1)).map fun i => (i, pl)) := by
        rw [List.append_assoc, ← List.map_cons (f := fun i => (i, pl)), ← List.drop_eq_getElem_cons hlt, ← List.map_append, List.take_append_drop]
      rw [e, List.map_append, List.map_cons] at hnd2
      exact (List.nodup_append.1 hnd2).2.2 _ hin _ (List.mem_cons_self) rfl
    · have hnin : l[i] ∉ (pre ++ (l.take i).map fun i => (i, pl)).map (·.1) := by
        rw [lookM_ents] at hb
        simp only [Bool.not_eq_false', Option.isNone_map, Option.isNone_iff_eq_none] at hb
        exact lookI_none.1 hb
      have e : pre ++ (l.take (i + 1)).map (fun i => (i, pl)) = (pre ++ (l.take i).map fun i => (i, pl)) ++ [(l[i], pl)] := by
        rw [List.take_add_one, List.getElem?_eq_getElem hlt, List.map_append, List.append_assoc]; rfl
      refine pure_den _ (add_one (by have := hl.lenB; simp [ints] at this; omega)) (countX_cont (heq _ _ _ _ _ _ _ _) hlt ⟨rfl, Heap.le_trans hle hle2, Om2, List.Perm.refl _, ?_, ?_⟩)
      · rw [e, ← upd_ents hnin]; exact hm2
      · rw [e, List.map_append, List.nodup_append]
        refine ⟨hnd', by simp, ?_⟩
        intro x hx y hy
        simp only [List.map_cons, List.map_nil, List.mem_singleton] at hy
        subst hy
        rintro rfl
        exact hnin hx
  · have hie : i = l.length := by have : ¬ ((i : Int) < (l.length : Int)) := by simpa using hb
                                  omega
    subst hie
    rw [List.take_length] at hm' hnd'
    exact good H' O' Om' hle hnd' hm' hO'

/-- A seat's four lists lie in its cells. -/
theorem c_lists (r : Nat) (o : Nat) (H : Heap) (O : Own) : RetO PP F_board_lists [.pointer (some ⟨r, o, none⟩)] H O (.agg #[.pointer (some ⟨r, o + 5, none⟩), .pointer (some ⟨r, o + 6, none⟩), .pointer (some ⟨r, o + 7, none⟩), .pointer (some ⟨r, o + 8, none⟩)]) := by
 refine run_board_lists (vs := [.pointer (some ⟨r, o, none⟩)]) (by kernel_rfl) ⟨rfl, trivial⟩ ?_
 simp only [T_board_lists]
 refine newbox_den fun r0 => chkP_den rfl (chkP_den rfl (chkP_den rfl (chkP_den rfl (chkP_den rfl (chkP_den rfl (chkP_den rfl (chkP_den rfl (chkN_den (chkN_den (ret_denO ⟨?_, rfl⟩))))))))))
 simp only [g, List.getD_eq_getElem?_getD, List.getElem?_cons_zero, Option.getD_some, ptrAdd, add_none]
theorem c_placed {H : Heap} {O : Own} {v : BV12} {b : Bd} (h : BdR H O v b) : RetO PP F_board_placed [.agg (boardC v b).toArray] H O (.bool (placedB validO b)) := by
 refine run_board_placed (vs := boardC v b) (by kernel_rfl) (boardC_ones h) ?_
 simp only [T_board_placed]
 have len1 : ∀ {H' : Heap} {O' : Own} {w : Value} {l : List Int}, RSl H' O' 1 w (ints l) → evalPure .len [w] = some (iV l.length) := fun h => by have := h.len; rwa [ints, List.length_map] at this
 have failB : ∀ {l : List (Int × Int)}, (∃ r, pairsB b = l ++ r) → ¬ (l.map (·.1)).Nodup → (Value.bool false : Value) = .bool (placedB validO b) := by
  rintro l ⟨r, hr⟩ hn
  have : ¬ ((pairsB b).map (·.1)).Nodup := by
   rw [hr, List.map_append]
   exact fun h => hn (List.nodup_append.1 h).1
  simp only [placedB, this, decide_false, Bool.false_and]
 refine newbox_den fun r0 => call_make (kd := .i64) fun mv O1 hm => newbox_den fun r1 => chkN_den (call_retO (c_lists r0 1 H _) rfl ⟨rfl, rfl, rfl, rfl, trivial⟩ fun H1 l1 => ?_)
 refine chkV_den (chkV_den (chkV_den (chkV_den (chkN_den (pure_den _ (len1 h.s0.lib) ?_)))))
 replace h := h.le l1
 refine put_den (mv := mv) (pre := []) (Ox := O) h.s0.lib rfl hm (List.Perm.refl _) (by simp) (by intros; simp [Eqs]) (fun H' _ hn => ⟨failB (l := [] ++ b.s0.lib.map fun i => (i, 0)) ⟨_, by simp [pairsB, pairsS]; rfl⟩ hn, rfl⟩) ?_
 intro H2 O2 Om2 l2 nd2 hm2 hO2
 replace h := h.le l2
 refine chkN_den (pure_den _ (len1 h.s0.hand) ?_)
 refine put_den (mv := mv) (pre := [] ++ b.s0.lib.map fun i => (i, 0)) (Ox := O) h.s0.hand rfl hm2 hO2 nd2 (by intros; simp [Eqs]) (fun H' _ hn => ⟨failB ⟨_, by simp [pairsB, pairsS]; rfl⟩ hn, rfl⟩) ?_
 intro H3 O3 Om3 l3 nd3 hm3 hO3
 replace h := h.le l3
 refine chkN_den (pure_den _ (len1 h.s0.field) ?_)
 refine put_den (mv := mv) (Ox := O) h.s0.field rfl hm3 hO3 nd3 (by intros; simp [Eqs]) (fun H' _ hn => ⟨failB ⟨_, by simp [pairsB, pairsS]; rfl⟩ hn, rfl⟩) ?_
 intro H4 O4 Om4 l4 nd4 hm4 hO4
 replace h := h.le l4
 refine chkN_den (pure_den _ (len1 h.s0.grave) ?_)
 refine put_den (mv := mv) (Ox := O) h.s0.grave rfl hm4 hO4 nd4 (by intros; simp [Eqs]) (fun H' _ hn => ⟨failB ⟨_, by simp [pairsB, pairsS]; rfl⟩ hn, rfl⟩) ?_
 intro H5 O5 Om5 l5 nd5 hm5 hO5
 replace h := h.le l5
 refine call_retO (c_lists r0 15 H5 _) rfl ⟨rfl, rfl, rfl, rfl, trivial⟩ fun H6 l6 => ?_
 replace h := h.le l6
 refine chkV_den (chkV_den (chkV_den (chkV_den (chkN_den (pure_den _ (len1 h.s1.lib) ?_)))))
 refine put_den (mv := mv) (Ox := O) h.s1.lib rfl hm5 hO5 nd5 (by intros; simp [Eqs]) (fun H' _ hn => ⟨failB ⟨_, by simp [pairsB, pairsS]; rfl⟩ hn, rfl⟩) ?_
 intro H7 O7 Om7 l7 nd7 hm7 hO7
 replace h := h.le l7
 refine chkN_den (pure_den _ (len1 h.s1.hand) ?_)
 refine put_den (mv := mv) (Ox := O) h.s1.hand rfl hm7 hO7 nd7 (by intros; simp [Eqs]) (fun H' _ hn => ⟨failB ⟨_, by simp [pairsB, pairsS]; rfl⟩ hn, rfl⟩) ?_
 intro H8 O8 Om8 l8 nd8 hm8 hO8
 replace h := h.le l8
 refine chkN_den (pure_den _ (len1 h.s1.field) ?_)
 refine put_den (mv := mv) (Ox := O) h.s1.field rfl hm8 hO8 nd8 (by intros; simp [Eqs]) (fun H' _ hn => ⟨failB ⟨_, by simp [pairsB, pairsS]; rfl⟩ hn, rfl⟩) ?_
 intro H9 O9 Om9 l9 nd9 hm9 hO9
 replace h := h.le l9
 refine chkN_den (pure_den _ (len1 h.s1.grave) ?_)
 refine put_den (mv := mv) (Ox := O) h.s1.grave rfl hm9 hO9 nd9 (by intros; simp [Eqs]) (fun H' _ hn => ⟨failB ⟨_, by simp [pairsB, pairsS]; rfl⟩ hn, rfl⟩) ?_
 intro H10 O10 Om10 l10 nd10 hm10 hO10
 replace h := h.le l10
 -- the seats' pairs
 have hpre : ∃ pre, pre = pairsS b.s0 0 ++ pairsS b.s1 1 := ⟨_, rfl⟩
 obtain ⟨pre, hpe⟩ := hpre
 have e10 : ([] ++ b.s0.lib.map (fun i => (i, (0 : Int))) ++ b.s0.hand.map (fun i => (i, 0)) ++ b.s0.field.map (fun i => (i, 0)) ++ b.s0.grave.map (fun i => (i, 0)) ++ b.s1.lib.map (fun i => (i, 1)) ++ b.s1.hand.map (fun i => (i, 1)) ++ b.s1.field.map (fun i => (i, 1)) ++ b.s1.grave.map (fun i => (i, 1))) = pre := by
  rw [hpe]; simp [pairsS]
 rw [e10] at nd10 hm10
 have hpb : pairsB b = pre ++ owned b.stack := by rw [hpe]; simp [pairsB]
 refine call_make (kd := .i64) fun cv Oc0 hc0 => chkN_den (pure_den _ (ItsR.len h.stack) ?_)
 have stk := h.stack
 obtain ⟨rows, hrs, hrl, hit⟩ := stk
 -- the stack
 refine countX_den b.stack.length (fun i xs H' O' => xs = [mv] ∧ Heap.le H10 H' ∧ ∃ Om Oc, O'.Perm (Om ++ (Oc ++ O)) ∧ OMap .i64 mv (entsOf (pre ++ owned (b.stack.take i))) Om ∧ OMap .i64 cv (entsOf (carded (b.stack.take i))) Oc ∧ ((pre ++ owned (b.stack.take i)).map (·.1)).Nodup)
  ⟨rfl, Heap.le_refl _, Om10, Oc0, ?_, by simpa [owned, cardsOn] using hm10, by simpa [carded, cardsOn, entsOf] using hc0, by simpa [owned, cardsOn] using nd10⟩ ?_
 ·exact ((hO10.append_left Oc0).trans (by rw [← List.append_assoc, ← List.append_assoc]; exact List.perm_append_comm.append_right O))
 rintro i xs H11 O11 hi - - - ⟨rfl, l11, Om, Oc, hO, hm, hc, hnd⟩
 refine pure_den _ (lss_eq _ _) (br_den (fun hb => ?_) (fun hb => ?_))
 ·have hlt : i < b.stack.length := by simpa using hb
  have hsub : ∀ p ∈ O, p ∈ O11 := fun p hp => hO.mem_iff.2 (by simp [hp])
  obtain ⟨a, h1, h2, _, h3, h4⟩ := ((hrs.le l11).own hsub).idx .i64 i rows[i] (by simp [hrl, hlt])
  obtain ⟨s, hrow, _⟩ := hit i rows[i] b.stack[i] (by simp [hrl, hlt]) (by simp [hlt])
  rw [hrow] at h2 h3 h4
  have etk : b.stack.take (i + 1) = b.stack.take i ++ [b.stack[i]] := by rw [List.take_add_one, List.getElem?_eq_getElem hlt]; rfl
  refine pure_den _ h1 (load_denR h2 h3 h4 (newbox_den fun r2 => chkN_den (chkN_den (pure_den _ (lss_eq _ _) (br_den (fun hb => ?_) (fun hb => ?_))))))
  ·
   have htr : b.stack[i].trig < 0 := by simpa using hb
   have eow : owned (b.stack.take (i + 1)) = owned (b.stack.take i) ++ [(b.stack[i].id, b.stack[i].player)] := by
    rw [etk, owned_append, owned_one htr]
   have eca : carded (b.stack.take (i + 1)) = carded (b.stack.take i) ++ [(b.stack[i].id, b.stack[i].card)] := by
    rw [etk, carded_append, carded_one htr]
   have hone : ((lookM (entsOf (pre ++ owned (b.stack.take i))) b.stack[i].id).getD (iV 0)).oneCell' = true := by
    rw [lookM_ents]; cases lookI (pre ++ owned (b.stack.take i)) b.stack[i].id <;> rfl
   refine chkN_den (chkN_den ?_)
   have hcall := c_placed_1 hm r1 b.stack[i].id b.stack[i].player H11 hone
   intro _
   refine ⟨H11, Om, Oc ++ O, _, Ghost.perm hO, hcall, ?_⟩
   rintro w H12 O12 ⟨rfl, Om2, rfl, hm2⟩ l12
   refine ⟨[_], [[mv]], Om2, rfl, ⟨rfl, trivial⟩, ⟨rfl, ⟨hm2.one, trivial⟩, trivial⟩, rfl, ?_⟩
   refine pure_den _ (not_eq' _) (br_den (fun hb => ?_) (fun hb => chkN_den (chkN_den ?_)))
   ·have hin : b.stack[i].id ∈ (pre ++ owned (b.stack.take i)).map (·.1) := by
     rw [lookM_ents] at hb
     simp only [Bool.not_eq_true', Option.isNone_map] at hb
     rcases Classical.em (b.stack[i].id ∈ (pre ++ owned (b.stack.take i)).map (·.1)) with h | h
     ·exact h
     ·rw [lookI_none.2 h] at hb; cases hb
    refine ret_to (X := Om2 ++ Oc) (by rw [List.append_assoc]) ⟨failB (l := pre ++ owned (b.stack.take (i + 1))) ⟨owned (b.stack.drop (i + 1)), ?_⟩ ?_, rfl⟩
    ·rw [hpb, List.append_assoc, ← owned_append, List.take_append_drop]
    ·rw [eow, ← List.append_assoc, List.map_append]
     intro hn
     exact (List.nodup_append.1 hn).2.2 _ hin _ (by simp) rfl
   ·have hnin : b.stack[i].id ∉ (pre ++ owned (b.stack.take i)).map (·.1) := by
     rw [lookM_ents] at hb
     simp only [Bool.not_eq_false', Option.isNone_map, Option.isNone_iff_eq_none] at hb
     exact lookI_none.1 hb
    have hninc : b.stack[i].id ∉ (carded (b.stack.take i)).map (·.1) := by
     intro hin
     refine hnin ?_
     rw [List.map_append]
     refine List.mem_append_right _ ?_
     simpa [carded, owned] using hin
    refine call_update mapII intI hc (O2 := Om2 ++ O) ?_ b.stack[i].id (iV b.stack[i].card) ?_
    ·rw [← List.append_assoc, ← List.append_assoc]
     exact List.perm_append_comm.append_right O
    intro w2 Oc2 hc2 _
    refine pure_den _ (add_one (by have := hrs.lenB; omega)) (countX_cont (by simp [Eqs]) hlt ⟨rfl, Heap.le_trans l11 l12, Om2, Oc2, ?_, ?_, ?_, ?_⟩)
    ·rw [← List.append_assoc, ← List.append_assoc]
     exact List.perm_append_comm.append_right O
    ·rw [eow, ← List.append_assoc, ← upd_ents hnin]; exact hm2
    ·rw [eca, ← upd_ents hninc]; exact hc2
    ·rw [eow, ← List.append_assoc, List.map_append, List.nodup_append]
     refine ⟨hnd, by simp, ?_⟩
     intro x hx y hy
     simp only [List.map_cons, List.map_nil, List.mem_singleton] at hy
     subst hy
     rintro rfl
     exact hnin hx
  ·have htr : ¬ b.stack[i].trig < 0 := by simpa using hb
   have eow : owned (b.stack.take (i + 1)) = owned (b.stack.take i) := by
    rw [etk, owned_append, owned_none htr, List.append_nil]
   have eca : carded (b.stack.take (i + 1)) = carded (b.stack.take i) := by
    rw [etk, carded_append, carded_none htr, List.append_nil]
   refine pure_den _ (add_one (by have := hrs.lenB; omega)) (countX_cont (by simp [Eqs]) hlt ⟨rfl, l11, Om, Oc, hO, ?_, ?_, ?_⟩)
   ·rw [eow]; exact hm
   ·rw [eca]; exact hc
   ·rw [eow]; exact hnd
 ·have hie : i = b.stack.length := by
   have : ¬ ((i : Int) < (b.stack.length : Int)) := by simpa using hb
   omega
  subst hie
  rw [List.take_length] at hm hc hnd
  rw [← hpb] at hm hnd
  replace h := h.le l11
  have lo := h.objs.len
  rw [List.length_map] at lo
  have hsub : ∀ p ∈ O, p ∈ O11 := fun p hp => hO.mem_iff.2 (by simp [hp])
  have hsubm : ∀ p ∈ Om, p ∈ O11 := fun p hp => hO.mem_iff.2 (by simp [hp])
  have hsubc : ∀ p ∈ Oc, p ∈ O11 := fun p hp => hO.mem_iff.2 (by simp [hp])
  have hpl : placedB validO b = (objsGo validO (pairsB b) (carded b.stack) none b.objs && decide ((pairsB b).length = b.objs.length)) := by
   simp only [placedB, hnd, decide_true, Bool.true_and]
  refine chkN_den (pure_den _ lo ?_)
  refine count_den b.objs.length (fun i H' O' => O' = O11 ∧ Heap.le H11 H' ∧ objsGo validO (pairsB b) (carded b.stack) none b.objs = objsGo validO (pairsB b) (carded b.stack) (prevId b.objs i) (b.objs.drop i)) ⟨rfl, Heap.le_refl _, by simp [prevId]⟩ ?_
  rintro i H12 O12 hi - ⟨rfl, l12, hor⟩
  refine pure_den _ (lss_eq _ _) (br_den (fun hb => ?_) (fun hb => ?_))
  ·have hlt : i < b.objs.length := by simpa using hb
   obtain ⟨a, h1, h2, _, h3, h4⟩ := ((h.objs.le l12).own hsub).idx .i64 i (Ob.row b.objs[i]) (by simp [hlt])
   refine pure_den _ h1 (load_denR h2 h3 h4 (newbox_den fun r3 => chkN_den (chkN_den (chkN_den ?_))))
   have hone : ((lookM (entsOf (pairsB b)) b.objs[i].id).getD (iV 0)).oneCell' = true := by
    rw [lookM_ents]; cases lookI (pairsB b) b.objs[i].id <;> rfl
   have honec : ((lookM (entsOf (carded b.stack)) b.objs[i].id).getD (iV 0)).oneCell' = true := by
    rw [lookM_ents]; cases lookI (carded b.stack) b.objs[i].id <;> rfl
   refine call_lookup mapII intI zeroI hm hsubm _ hone (chkN_den (call_lookup mapII intI zeroI hc hsubc _ honec (chkN_den ?_)))
   have g1 : (lookM (entsOf (pairsB b)) b.objs[i].id).getD (iV 0) = iV ((lookI (pairsB b) b.objs[i].id).getD 0) := by rw [lookM_ents]; cases lookI (pairsB b) b.objs[i].id <;> rfl
   have g2 : (lookM (entsOf (carded b.stack)) b.objs[i].id).getD (iV 0) = iV ((lookI (carded b.stack) b.objs[i].id).getD 0) := by rw [lookM_ents]; cases lookI (carded b.stack) b.objs[i].id <;> rfl
   have g3 : (lookM (entsOf (pairsB b)) b.objs[i].id).isSome = !(lookI (pairsB b) b.objs[i].id).isNone := by rw [lookM_ents]; cases lookI (pairsB b) b.objs[i].id <;> rfl
   have g4 : (lookM (entsOf (carded b.stack)) b.objs[i].id).isSome = (lookI (carded b.stack) b.objs[i].id).isSome := by rw [lookM_ents]; cases lookI (carded b.stack) b.objs[i].id <;> rfl
   rw [g1, g2, g3, g4]
   refine call_retO (c_object_Valid b.objs[i] H12 O12) rfl ⟨rfl, trivial⟩ fun H13 l13 => ?_
   have l13' := Heap.le_trans l12 l13
   -- the object before it
   have hp : ∃ (pv : Value) (x : Int), pv.oneCell' = true ∧ (0 < i → evalPure (.idx 12) [v.o, iV ((i : Int) - 1)] = some pv ∧ isPtr pv = true ∧ Reads H13 O12 pv 1 [iV x]) ∧ prevBad (prevId b.objs i) b.objs[i].id = (decide ((i : Int) > 0) && decide (x ≥ b.objs[i].id)) := by
    rcases Nat.eq_zero_or_pos i with rfl | hpos
    ·exact ⟨iV 0, 0, rfl, fun h => absurd h (Nat.lt_irrefl 0), by simp [prevId, prevBad]⟩
    ·obtain ⟨j, rfl⟩ : ∃ j, i = j + 1 := ⟨i - 1, by omega⟩
     have hj : j < b.objs.length := by omega
     obtain ⟨a, k1, k2, k3, _⟩ := ((h.objs.le l13').own hsub).idx .i64 j (Ob.row b.objs[j]) (by simp [hj])
     refine ⟨.pointer (some a), b.objs[j].id, rfl, fun _ => ⟨?_, rfl, ?_⟩, ?_⟩
     ·have e : ((j + 1 : Nat) : Int) - 1 = (j : Int) := by omega
      rw [e]; exact k1
     ·have := k3 0 1 (by omega)
      have e : ptrAdd (.pointer (some a)) 0 = .pointer (some a) := by simp [ptrAdd, Addr.add]
      rwa [e] at this
     ·rw [prev_succ hj]
      have : ((j + 1 : Nat) : Int) > 0 := by omega
      simp only [prevBad, this, decide_true, Bool.true_and]
   obtain ⟨pv, x, hpone, hpv, hprev⟩ := hp
   have hiB : (i : Int) + 1 < 9223372036854775808 := by have := h.objs.lenB; simp at this; omega
   have hsub1 : evalPure (.bin .sub .int) [iV i, iV 1] = some (iV ((i : Int) - 1)) := by
    simp only [evalPure, evalBin, evalInt, if_true]
    rw [wrap_id (by omega) (by omega)]
   have hon : ∀ {u : Bool}, On [((.bool (decide ((i : Int) > 0)) : Value), true), (.bool u, false)] → 0 < i := fun h => by
    have := h.1
    simp at this
    omega
   refine pure_den _ (not_eq' _) (chkV_den (pure_den _ (gtr_eq _ _) ?_))
   repeat (first | refine chkN_den ?_ | refine chkV_den ?_ | refine pure_den _ hsub1 ?_)
   refine ⟨pv, fun ho => (hpv (hon ho)).1, .inr hpone, ?_⟩
   refine ⟨fun ho => (hpv (hon ho)).2.1, ?_⟩
   repeat (first | refine chkN_den ?_ | refine chkV_den ?_)
   refine ⟨[iV x], rfl, ⟨rfl, trivial⟩, fun ho => (hpv (hon ho)).2.2, ?_⟩
   repeat (first | refine chkN_den ?_ | refine chkV_den ?_ | refine newbox_den fun _ => ?_ | refine pure_den _ (lss_eq _ _) ?_ | refine pure_den _ (gtr_eq _ _) ?_ | refine pure_den _ (leq_eq _ _) ?_ | refine pure_den _ (geq_eq _ _) ?_ | refine pure_den _ (eql_eq _ _) ?_ | refine pure_den _ (neq_eq _ _) ?_ | refine pure_den _ (pick_and _ _) ?_ | refine pure_den _ (pick_or _ _) ?_ | refine pure_den _ (not_eq' _) ?_ | refine pure_den _ (beql_eq _ _) ?_ | refine pure_den _ (bneq_eq _ _) ?_)
   have hbad : objBad (pairsB b) (carded b.stack) (prevId b.objs i) (validO b.objs[i]) b.objs[i] =
     ((((!validO b.objs[i] || (decide ((i : Int) > 0) && decide (x ≥ b.objs[i].id))) || (lookI (pairsB b) b.objs[i].id).isNone) || ((lookI (pairsB b) b.objs[i].id).getD 0 != b.objs[i].owner)) || ((lookI (carded b.stack) b.objs[i].id).isSome && ((lookI (carded b.stack) b.objs[i].id).getD 0 != b.objs[i].card))) := by
    unfold objBad; rw [hprev]
   have hstep : objsGo validO (pairsB b) (carded b.stack) (prevId b.objs i) (b.objs.drop i) = (!objBad (pairsB b) (carded b.stack) (prevId b.objs i) (validO b.objs[i]) b.objs[i] && objsGo validO (pairsB b) (carded b.stack) (some b.objs[i].id) (b.objs.drop (i + 1))) := by
    rw [List.drop_eq_getElem_cons hlt, objsGo]
   refine br_den (fun hb => ?_) (fun hb => ?_)
   ·refine ret_to (X := Om ++ Oc) (by rw [List.append_assoc]; exact hO) ⟨?_, rfl⟩
    rw [hpl, hor, hstep, hbad]
    simp only [Bool.not_not] at hb
    rw [hb]; rfl
   ·refine pure_den _ (add_one (by omega)) (count_cont (by simp [Eqs]) hlt ⟨rfl, l13', ?_⟩)
    simp only [Bool.not_not] at hb
    rw [hor, hstep, hbad, hb, prev_succ hlt]; rfl
  ·have hie : i = b.objs.length := by
    have : ¬ ((i : Int) < (b.objs.length : Int)) := by simpa using hb
    omega
   subst hie
   rw [List.drop_length] at hor
   refine chkN_den ?_
   refine call_mlen hm hsubm (chkN_den (pure_den _ lo (pure_den _ (eql_eq _ _) (ret_to (X := Om ++ Oc) (by rw [List.append_assoc]; exact hO) ⟨?_, rfl⟩))))
   rw [hpl, hor]
   simp only [objsGo, Bool.true_and, entsOf, List.length_map]
   congr 1
   rw [Bool.eq_iff_iff]
   simp only [beq_iff_eq, decide_eq_true_eq]
   omega
end Go.Proofs.YtjaegdkkiefchaaGreatDoor
namespace Go.Proofs.YtjaegdkkiefchaaGreatDoor
open Go Go.Sx
set_option maxRecDepth 100000
set_option maxHeartbeats 1000000
theorem zeroBo : ∀ w, (zeroValue Ty_bool).run PP w = .ok (.bool false) w := by
 intro w
 have : (PP.info? Ty_bool).bind (·.zero) = some (.bool false) := by kernel_rfl
 simp only [Option.bind_eq_some_iff] at this
 obtain ⟨i, hi, hz⟩ := this
 simp [zeroValue, typeInfo, hi, hz]
theorem mapIB : PP.underlying Ty_map_int_bool = some (.map Ty_int Ty_bool) := by kernel_rfl
theorem neg_eq (a : Int) : evalPure .neg [iV a] = some (iV (IntKind.i64.wrap (0 - a))) := rfl
theorem fights_den {lab1 key1 lab2 key2 : Nat} {fo ft av bv : Value} {own other att : List Int} {bl : List Bl} {H : Heap} {O : Own} {Q : Value → Heap → Own → Prop} {r0 : Nat}
  {eqs1 : List Value → Value → List (List Value × List Value)}
  {eqs2 : List Value → Value → List (List Value × List Value)}
  (ho : RSl H O 1 fo (ints own)) (ht : RSl H O 1 ft (ints other)) (ha : RSl H O 1 av (ints att)) (hb : RSl H O 2 bv (bl.map Bl.row)) (hpo : ∀ x ∈ own, 0 < x) (hpt : ∀ x ∈ other, 0 < x ∧ x ≤ 500)
  (heq1 : ∀ a b, Eqs (eqs1 a b)) (heq2 : ∀ a b, Eqs (eqs2 a b))
  (hQ : ∀ H', Heap.le H H' → Q (.bool (fightsB own other att bl)) H' O) :
  (Tree.prim (.makeMap Ty_map_int_bool false) [] [] [] .one fun l1 _ =>
   .chk (.eqN r0 r0) <|
   .pure [] .len [av] fun v2 =>
   .loop lab1 key1 [(.int .i64 0)] fun C23 l3 =>
    .pure [] (.bin .lss .int) [(g l3 0), v2] fun v4 =>
    .br v4 (
     .pure [] (.idx 1) [av, (g l3 0)] fun v5 =>
     .load [] v5 1 fun l6 =>
     .prim (.lookup Ty_map_int_bool false) [(g l1 0), (g l6 0)] [] [] .one fun l7 _ =>
     .br (g l7 0) (
      .ret (.bool false) []) (
      .call false F_slices_Contains_int_int [fo, (g l6 0)] [] [] .one fun l8 _ =>
      .pure [] .not [(g l8 0)] fun v9 =>
      .br v9 (
       .ret (.bool false) []) (
       .prim (.mapUpdate Ty_map_int_bool) [(g l1 0), (g l6 0), (.bool true)] [] [] .one fun l10 _ =>
       .pure [] (.bin .add .int) [(g l3 0), (.int .i64 1)] fun v11 =>
       .cont lab1 C23 [v11] (eqs1 l1 v2)))) (
     .chk (.eqN r0 r0) <|
     .pure [] .len [bv] fun v12 =>
     .loop lab2 key2 [(.int .i64 0)] fun C29 l13 =>
      .pure [] (.bin .lss .int) [(g l13 0), v12] fun v14 =>
      .br v14 (
       .pure [] (.idx 2) [bv, (g l13 0)] fun v15 =>
       .load [] v15 2 fun l16 =>
       .newbox fun r1 =>
       .chk (.eqN r1 r1) <|
       .chk (.eqN r1 r1) <|
       .prim (.lookup Ty_map_int_bool false) [(g l1 0), (g l16 1)] [] [] .one fun l17 _ =>
       .pure [] .not [(g l17 0)] fun v18 =>
       .br v18 (
        .ret (.bool false) []) (
        .chk (.eqN r1 r1) <|
        .pure [] .neg [(g l16 0)] fun v19 =>
        .prim (.lookup Ty_map_int_bool false) [(g l1 0), v19] [] [] .one fun l20 _ =>
        .br (g l20 0) (
         .ret (.bool false) []) (
         .chk (.eqN r0 r0) <|
         .chk (.eqN r1 r1) <|
         .call false F_slices_Contains_int_int [av, (g l16 1)] [] [] .one fun l21 _ =>
         .pure [] .not [(g l21 0)] fun v22 =>
         .br v22 (
          .ret (.bool false) []) (
          .chk (.eqN r1 r1) <|
          .call false F_slices_Contains_int_int [ft, (g l16 0)] [] [] .one fun l23 _ =>
          .pure [] .not [(g l23 0)] fun v24 =>
          .br v24 (
           .ret (.bool false) []) (
           .chk (.eqN r1 r1) <|
           .chk (.eqN r1 r1) <|
           .pure [] .neg [(g l16 0)] fun v25 =>
           .prim (.mapUpdate Ty_map_int_bool) [(g l1 0), (g l16 1), (.bool false)] [] [] .one fun l26 _ =>
           .prim (.mapUpdate Ty_map_int_bool) [(g l1 0), v25, (.bool true)] [] [] .one fun l27 _ =>
           .pure [] (.bin .add .int) [(g l13 0), (.int .i64 1)] fun v28 =>
           .cont lab2 C29 [v28] (eqs2 l1 v12)))))) (
       .ret (.bool true) []))).den PP Q H O := by
 have la := ha.len
 have lb := hb.len
 rw [ints, List.length_map] at la
 rw [List.length_map] at lb
 refine call_make (kd := .i64) fun mv Om0 hm0 => chkN_den (pure_den _ la ?_)
 refine count_den att.length (fun i H' O' => Heap.le H H' ∧ ∃ m Om, O'.Perm (Om ++ O) ∧ OMap .i64 mv m Om ∧ (∀ k, (lookM m k).getD (.bool false) = .bool (seenP (att.take i) [] [] k)) ∧ (att.take i).Nodup ∧ ∀ x ∈ att.take i, x ∈ own)
  ⟨Heap.le_refl H, [], Om0, List.Perm.refl _, hm0, fun k => by simp [lookM, seenP], by simp, by simp⟩ ?_
 rintro i H1 O1 hi - ⟨l1, m, Om, hO, hm, hs, hnd, hall⟩
 have hsubO : ∀ p ∈ O, p ∈ O1 := fun p hp => hO.mem_iff.2 (List.mem_append_right Om hp)
 have hsubM : ∀ p ∈ Om, p ∈ O1 := fun p hp => hO.mem_iff.2 (List.mem_append_left O hp)
 refine pure_den _ (lss_eq _ _) (br_den (fun hlt => ?_) (fun hge => ?_))
 ·have hlt : i < att.length := by simpa using hlt
  obtain ⟨a, h1, h2, _, h3, h4⟩ := ((ha.le l1).own hsubO).idx .i64 i [iV att[i]] (by simp [ints, hlt])
  refine pure_den _ h1 (load_denR h2 h3 h4 ?_)
  refine call_lookup1 mapIB intI zeroBo hm hsubM att[i] (by show ((lookM m att[i]).getD (.bool false)).oneCell' = true; rw [hs]; rfl) ?_
  show Tree.den PP Q (.br ((lookM m att[i]).getD (.bool false)) _ _) H1 O1
  rw [hs]
  have etk : att.take (i + 1) = att.take i ++ [att[i]] := by rw [List.take_add_one, List.getElem?_eq_getElem hlt]; rfl
  refine br_den (fun hin => ?_) (fun hnin => ?_)
  ·refine ret_to hO ?_
   have : ¬ att.Nodup := by
    intro hn
    have hin : att[i] ∈ att.take i := by simpa [seenP] using hin
    have hn2 : (att.take (i + 1)).Nodup := hn.sublist (List.take_sublist _ _)
    rw [etk, List.nodup_append] at hn2
    exact hn2.2.2 _ hin _ (by simp) rfl
   have := hQ H1 l1
   simpa [fightsB, ‹¬ att.Nodup›] using this
  ·refine call_retO (c_Contains_int ((ho.le l1).own hsubO) att[i]) rfl ⟨rfl, trivial⟩ fun H2 l2 => pure_den _ (not_eq' _) (br_den (fun hc => ?_) (fun hc => ?_))
   ·refine ret_to hO ?_
    have hf : (att.all fun x => own.contains x) = false := by
     rw [Bool.eq_false_iff]
     intro hh
     have := List.all_eq_true.1 hh att[i] (List.getElem_mem hlt)
     rw [this] at hc; cases hc
    have := hQ H2 (Heap.le_trans l1 l2)
    simpa only [fightsB, hf, Bool.false_and, Bool.and_false] using this
   ·refine call_update mapIB intI hm hO att[i] (.bool true) ?_
    intro w Om2 hm2 _
    refine pure_den _ (add_one (by have := ha.lenB; simp [ints] at this; omega)) (count_cont (heq1 _ _) hlt ⟨Heap.le_trans l1 l2, _, Om2, List.Perm.refl _, hm2, ?_, ?_, ?_⟩)
    ·intro k
     rw [lookM_upd]
     by_cases hk : k = att[i]
     ·rw [if_pos hk, etk]
      have : seenP (att.take i ++ [att[i]]) [] [] k = true := by simp only [seenP, decide_eq_true_eq, List.mem_append, List.mem_singleton]; exact .inl ⟨.inr hk, by simp⟩
      rw [this]; rfl
     ·rw [if_neg hk, hs, etk]
      congr 1
      simp only [seenP, List.mem_append, List.mem_singleton, hk, or_false]
    ·rw [etk, List.nodup_append]
     refine ⟨hnd, by simp, ?_⟩
     intro x hx y hy
     simp only [List.mem_singleton] at hy
     subst hy
     rintro rfl
     simp [seenP] at hnin
     exact hnin hx
    ·rw [etk]
     intro x hx
     rcases List.mem_append.1 hx with hx | hx
     ·exact hall x hx
     ·simp only [List.mem_singleton] at hx
      subst hx
      simpa using hc
 ·have hie : i = att.length := by
   have : ¬ ((i : Int) < (att.length : Int)) := by simpa using hge
   omega
  subst hie
  rw [List.take_length] at hs hnd hall
  have hfb : fightsB own other att bl = blkGo att other [] [] bl := by
   have : (att.all fun x => own.contains x) = true := by
    rw [List.all_eq_true]
    intro x hx
    simpa using hall x hx
   simp only [fightsB, hnd, decide_true, this, Bool.true_and]
  refine chkN_den (pure_den _ lb ?_)
  refine count_den bl.length (fun i H' O' => Heap.le H1 H' ∧ ∃ m Om ua ub, O'.Perm (Om ++ O) ∧ OMap .i64 mv m Om ∧ (∀ k, (lookM m k).getD (.bool false) = .bool (seenP att ua ub k)) ∧ (∀ x ∈ ub, 0 < x) ∧ blkGo att other [] [] bl = blkGo att other ua ub (bl.drop i))
   ⟨Heap.le_refl H1, m, Om, [], [], hO, hm, hs, by simp, by simp⟩ ?_
  rintro i H2 O2 hi - ⟨l2, m, Om, ua, ub, hO, hm, hs, hub, hgo⟩
  have l2' := Heap.le_trans l1 l2
  have hsubO : ∀ p ∈ O, p ∈ O2 := fun p hp => hO.mem_iff.2 (List.mem_append_right Om hp)
  have hsubM : ∀ p ∈ Om, p ∈ O2 := fun p hp => hO.mem_iff.2 (List.mem_append_left O hp)
  refine pure_den _ (lss_eq _ _) (br_den (fun hlt => ?_) (fun hge => ?_))
  ·have hlt : i < bl.length := by simpa using hlt
   obtain ⟨a, h1, h2, _, h3, h4⟩ := ((hb.le l2').own hsubO).idx .i64 i (Bl.row bl[i]) (by simp [hlt])
   rw [List.drop_eq_getElem_cons hlt, blkGo] at hgo
   generalize bl[i] = x at hgo h2 h3 h4
   have hone : ∀ k, ((lookM m k).getD (.bool false)).oneCell' = true := fun k => by rw [hs]; rfl
   have fin : ∀ H', Heap.le H H' → ((!ua.contains x.attacker && att.contains x.attacker && (!ub.contains x.blocker && other.contains x.blocker)) = false) → Q (.bool false) H' O := by
    intro H' hl hf
    have := hQ H' hl
    rwa [hfb, hgo, hf, Bool.false_and] at this
   refine pure_den _ h1 (load_denR h2 h3 h4 (newbox_den fun r1 => chkN_den (chkN_den ?_)))
   refine call_lookup1 mapIB intI zeroBo hm hsubM x.attacker (hone _) ?_
   show Tree.den PP Q (.pure [] .not [(lookM m x.attacker).getD (.bool false)] _) H2 O2
   rw [hs]
   refine pure_den _ (not_eq' _) (br_den (fun h1 => ret_to hO (fin H2 l2' ?_)) (fun h1 => chkN_den (pure_den _ (neg_eq _) ?_)))
   ·simp only [Bool.not_eq_true', seenP, decide_eq_false_iff_not, not_or, not_and, Decidable.not_not] at h1
    by_cases hin : x.attacker ∈ att
    ·have := h1.1 hin
     simp [this]
    ·simp [hin]
   refine call_lookup1 mapIB intI zeroBo hm hsubM _ (hone _) ?_
   show Tree.den PP Q (.br ((lookM m (IntKind.i64.wrap (0 - x.blocker))).getD (.bool false)) _ _) H2 O2
   rw [hs]
   refine br_den (fun h2 => ret_to hO (fin H2 l2' ?_)) (fun h2 => chkN_den (chkN_den ?_))
   ·by_cases hin : x.blocker ∈ other
    ·have hr := hpt _ hin
     rw [wrap_id (by omega) (by omega)] at h2
     simp only [seenP, decide_eq_true_eq, Int.zero_sub, Int.neg_neg] at h2
     rcases h2 with ⟨h2, _⟩ | h2
     ·have := hpo _ (hall _ h2); omega
     ·simp [h2]
    ·simp [hin]
   refine call_retO (c_Contains_int ((ha.le l2').own hsubO) x.attacker) rfl ⟨rfl, trivial⟩ fun H3 l3 => pure_den _ (not_eq' _) (br_den (fun h3 => ret_to hO (fin H3 (Heap.le_trans l2' l3) ?_)) (fun h3 => chkN_den ?_))
   ·simp only [Bool.not_eq_true'] at h3
    rw [h3]; simp
   refine call_retO (c_Contains_int ((ht.le (Heap.le_trans l2' l3)).own hsubO) x.blocker) rfl ⟨rfl, trivial⟩ fun H4 l4 => pure_den _ (not_eq' _) (br_den (fun h4 => ret_to hO (fin H4 (Heap.le_trans l2' (Heap.le_trans l3 l4)) ?_)) (fun h4 => chkN_den (chkN_den (pure_den _ (neg_eq _) ?_))))
   ·simp only [Bool.not_eq_true'] at h4
    rw [h4]; simp
   simp only [Bool.not_eq_false'] at h1 h3 h4
   have hain : x.attacker ∈ att := by simpa using h3
   have hbin : x.blocker ∈ other := by simpa using h4
   have hr := hpt _ hbin
   have hapos := hpo _ (hall _ hain)
   rw [wrap_id (by omega) (by omega)] at h2 ⊢
   rw [Int.zero_sub] at h2 ⊢
   refine call_update mapIB intI hm hO x.attacker (.bool false) ?_
   intro w Om2 hm2 _
   refine call_update mapIB intI hm2 (List.Perm.refl _) (-x.blocker) (.bool true) ?_
   intro w Om3 hm3 _
   refine pure_den _ (add_one (by have := hb.lenB; simp at this; omega)) (count_cont (heq2 _ _) hlt ⟨Heap.le_trans l2 (Heap.le_trans l3 l4), _, Om3, x.attacker :: ua, x.blocker :: ub, List.Perm.refl _, hm3, seen_upd hs hub hapos hr.1, ?_, ?_⟩)
   ·intro y hy
    rcases List.mem_cons.1 hy with rfl | hy
    ·exact hr.1
    ·exact hub y hy
   ·rw [hgo]
    have hua : ua.contains x.attacker = false := by
     simp only [seenP, decide_eq_true_eq] at h1
     rcases h1 with ⟨_, h1⟩ | h1
     ·simpa using h1
     ·have := hub _ h1; omega
    have hubn : ub.contains x.blocker = false := by
     simp only [seenP, decide_eq_false_iff_not, not_or, Int.neg_neg] at h2
     simpa using h2.2
    rw [hua, h3, hubn, h4]; rfl
  ·have hie : i = bl.length := by
    have : ¬ ((i : Int) < (bl.length : Int)) := by simpa using hge
    omega
   subst hie
   rw [List.drop_length] at hgo
   refine ret_to hO ?_
   have := hQ H2 l2'
   rwa [hfb, hgo, blkGo] at this
end Go.Proofs.YtjaegdkkiefchaaGreatDoor
