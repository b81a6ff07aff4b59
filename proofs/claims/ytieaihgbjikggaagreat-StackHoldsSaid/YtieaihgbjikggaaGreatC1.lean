/- Small functions: numbers, slices of ints, function values over slices. -/
import Derived.Test.YtieaihgbjikggaaGreatBT4
import Derived.Test.YtieaihgbjikggaaGreatFw2
import Derived.Test.YtieaihgbjikggaaGreatFw2
import Derived.Test.YtieaihgbjikggaaGreatFw2
namespace Go.Proofs.YtieaihgbjikggaaGreat
open Go Go.Sx
set_option maxRecDepth 100000
set_option maxHeartbeats 1000000
abbrev I (n : Int) : Value := .int .i64 n
theorem dd (a lo hi : Int) (H : Heap) (O : Own) : RetO PP rQ [I a, I lo, I hi] H O (.bool (decide (lo ≤ a ∧ a ≤ hi))) := by
 refine vD (vs := [I a, I lo, I hi]) (by kernel_rfl) ⟨rfl, rfl, rfl, trivial⟩ ?_
 unfold mD
 refine ab _ (dS _ _) (af (af (ab _ (ef _ _) (af (ab _ (bE _ _) (ah ⟨?_, rfl⟩))))))
 simp [Bool.decide_and]
def re : List Int → Int → Int → Int
 | [], _, _ => -1
 | a :: r, x, i => if x == a then i else re r x (i + 1)
theorem GN : ∀ (l : List Int) (x i : Int), 0 ≤ i → (decide (0 ≤ re l x i) = l.contains x)
 | [], x, i, _ => by simp [re]
 | a :: r, x, i, h => by
  simp only [re, List.contains_cons]
  by_cases hx : x = a
  ·simp [hx, h]
  ·simp only [beq_iff_eq, hx, if_false]
   rw [GN r x (i + 1) (by omega)]
   simp [hx]
theorem eD {H : Heap} {O : Own} {v : Value} {l : List Int} (h : RSl H O 1 v (l.map fun n => [I n])) (x : Int) : RetO PP iZ [v, I x] H O (I (re l x 0)) := by
 refine mR (vs := [v, I x]) (by kernel_rfl) ⟨h.one, rfl, trivial⟩ ?_
 simp only [fi]
 refine ab _ h.len ?_
 refine aR l.length (fun i H' O' => O' = O ∧ Heap.le H H' ∧ re l x 0 = re (l.drop i) x i) ⟨rfl, Heap.le_refl H, by simp⟩ ?_
 rintro i H' O' hi - ⟨rfl, hle, hor⟩
 refine ab _ (aB _ _) (ak (fun hb => ?_) (fun hb => ?_))
 ·have hlt : i < l.length := by simpa using hb
  obtain ⟨a, h1, h2, _, h3, h4⟩ := (h.le hle).idx .i64 i [I l[i]] (by simp [hlt])
  refine ab _ h1 (ap h2 h3 h4 (ab _ (aF _ _) (ak (fun hb => ?_) (fun hb => ?_))))
  ·refine ah ⟨?_, rfl⟩
   rw [hor, List.drop_eq_getElem_cons hlt, re, if_pos hb]; rfl
  ·refine ab _ (ax (by have := h.lenB; simp at this; omega)) (aK (by simp [Eqs]) hlt ⟨rfl, hle, ?_⟩)
   rw [hor, List.drop_eq_getElem_cons hlt, re, if_neg (by rw [hb]; simp)]; rfl
 ·have hge : l.length ≤ i := by simpa using hb
  refine ah ⟨?_, rfl⟩
  rw [hor, List.drop_of_length_le hge]; rfl
theorem gK {H : Heap} {O : Own} {v : Value} {l : List Int} (h : RSl H O 1 v (l.map fun n => [I n])) (x : Int) : RetO PP cg [v, I x] H O (.bool (l.contains x)) := by
 refine kH (vs := [v, I x]) (by kernel_rfl) ⟨h.one, rfl, trivial⟩ ?_
 simp only [dQ]
 refine aj (eD h x) rfl ⟨rfl, trivial⟩ fun H1 _ => ab _ (dS _ _) (ah ⟨?_, rfl⟩)
 rw [← GN l x 0 (by omega)]
theorem eE {H : Heap} {v : Value} {l : List (List Value)} (h : Sl H 1 v l) (hb : l.length ≤ 2 ^ 40) : Triple PP ja [v] H [] fun v' H' O' => OSl be 1 v' l O' := by
 refine mS (vs := [v]) (by kernel_rfl) ⟨h.one, trivial⟩ ?_
 simp only [fk]
 obtain ⟨a, cap, rfl, h1, h2, h3⟩ := h
 have hev : al (.bin .eql .slice) [.slice a l.length cap, .slice none 0 0] = some (.bool a.isNone) := by cases a <;> rfl
 refine ab _ hev (ak (fun hn => ah ?_) (fun hn => fun r0 => ?_))
 ·have hl : l = [] := by
   by_cases hl : l = []
   ·exact hl
   ·obtain ⟨ad, rfl, _⟩ := h3 hl; cases hn
  subst hl
  exact OSl.nil be 1
 ·refine aI (rows := []) (news := l) (O1 := []) (O2 := []) (e := be) (size := 1) (bytes := 8) (by kernel_rfl) (List.Perm.refl _) (.inl ⟨⟨_, rfl⟩, rfl, rfl⟩) (fun Hf hl _ => Sl.le hl ⟨a, cap, rfl, h1, h2, h3⟩) (by simp; omega) (by simp; omega) ?_
  intro v' O1' H' _ ho
  refine ah ?_
  rw [List.append_nil]
  exact ho
end Go.Proofs.YtieaihgbjikggaaGreat
namespace Go.Sx
open Go
abbrev iV (n : Int) : Value := .int .i64 n
def aO (l : List Int) : List (List Value) := l.map fun n => [iV n]
structure Ob where
 (id card owner power tough dmg cnt pp pt : Int)
 (tap sick doom : Bool)
deriving DecidableEq
def Ob.row (o : Ob) : List Value := [iV o.id, iV o.card, iV o.owner, iV o.power, iV o.tough, iV o.dmg, iV o.cnt, iV o.pp, iV o.pt, .bool o.tap, .bool o.sick, .bool o.doom]
structure Tg where
 (id player : Int)
deriving DecidableEq
def Tg.row (t : Tg) : List Value := [iV t.id, iV t.player]
structure It where
 (player id card trig : Int)
 tgs : List Tg
deriving DecidableEq
structure Bl where
 (blocker attacker : Int)
deriving DecidableEq
def Bl.row (b : Bl) : List Value := [iV b.blocker, iV b.attacker]
structure St where
 (life p0 p1 p2 p3 : Int)
 (lib hand field grave : List Int)
 (empty played kept : Bool)
 (mull acts : Int)
deriving DecidableEq
structure Bd where
 objs : List Ob
 (s0 s1 : St)
 (stack queue : List It)
 att : List Int
 blocks : List Bl
 (turn active phase holder passes : Int)
deriving DecidableEq
def ItR (H : Heap) (O : Own) (row : List Value) (x : It) : Prop := ∃ s, row = [iV x.player, iV x.id, iV x.card, iV x.trig, s] ∧ RSl H O 2 s (x.tgs.map Tg.row)
def ItsR (H : Heap) (O : Own) (v : Value) (l : List It) : Prop := ∃ rows, RSl H O 5 v rows ∧ rows.length = l.length ∧ ∀ (i : Nat) (r : List Value) (x : It), rows[i]? = some r → l[i]? = some x → ItR H O r x
structure StR (H : Heap) (O : Own) (vl vh vf vg : Value) (s : St) : Prop where
 lib : RSl H O 1 vl (aO s.lib)
 hand : RSl H O 1 vh (aO s.hand)
 field : RSl H O 1 vf (aO s.field)
 grave : RSl H O 1 vg (aO s.grave)
def HP (vl vh vf vg : Value) (s : St) : List Value := [iV s.life, iV s.p0, iV s.p1, iV s.p2, iV s.p3, vl, vh, vf, vg, .bool s.empty, .bool s.played, .bool s.kept, iV s.mull, iV s.acts]
structure d8 where
 (o l0 h0 f0 g0 l1 h1 f1 g1 s q a b : Value)
def ay (v : d8) (b : Bd) : List Value :=
  [v.o, iV b.s0.life, iV b.s0.p0, iV b.s0.p1, iV b.s0.p2, iV b.s0.p3, v.l0, v.h0, v.f0, v.g0, .bool b.s0.empty, .bool b.s0.played, .bool b.s0.kept, iV b.s0.mull, iV b.s0.acts,
   iV b.s1.life, iV b.s1.p0, iV b.s1.p1, iV b.s1.p2, iV b.s1.p3, v.l1, v.h1, v.f1, v.g1, .bool b.s1.empty, .bool b.s1.played, .bool b.s1.kept, iV b.s1.mull, iV b.s1.acts,
   v.s, v.q, v.a, v.b, iV b.turn, iV b.active, iV b.phase, iV b.holder, iV b.passes]
structure BdR (H : Heap) (O : Own) (v : d8) (b : Bd) : Prop where
 objs : RSl H O 12 v.o (b.objs.map Ob.row)
 s0 : StR H O v.l0 v.h0 v.f0 v.g0 b.s0
 s1 : StR H O v.l1 v.h1 v.f1 v.g1 b.s1
 stack : ItsR H O v.s b.stack
 queue : ItsR H O v.q b.queue
 att : RSl H O 1 v.a (aO b.att)
 blocks : RSl H O 2 v.b (b.blocks.map Bl.row)
theorem ItR.le {H H' : Heap} {O : Own} {row : List Value} {x : It} (h : ItR H O row x) (hl : Heap.le H H') : ItR H' O row x := let ⟨s, h1, h2⟩ := h; ⟨s, h1, h2.le hl⟩
theorem ItsR.le {H H' : Heap} {O : Own} {v : Value} {l : List It} (h : ItsR H O v l) (hl : Heap.le H H') : ItsR H' O v l :=
 let ⟨rows, h1, h2, h3⟩ := h; ⟨rows, h1.le hl, h2, fun i r x a b => (h3 i r x a b).le hl⟩
theorem StR.le {H H' : Heap} {O : Own} {vl vh vf vg : Value} {s : St} (h : StR H O vl vh vf vg s) (hl : Heap.le H H') : StR H' O vl vh vf vg s := ⟨h.lib.le hl, h.hand.le hl, h.field.le hl, h.grave.le hl⟩
theorem BdR.le {H H' : Heap} {O : Own} {v : d8} {b : Bd} (h : BdR H O v b) (hl : Heap.le H H') : BdR H' O v b :=
 ⟨h.objs.le hl, h.s0.le hl, h.s1.le hl, h.stack.le hl, h.queue.le hl, h.att.le hl, h.blocks.le hl⟩
def aq (a lo hi : Int) : Bool := decide (lo ≤ a ∧ a ≤ hi)
def d6 (t : Tg) : Bool := aq t.id 0 500 && (aq t.player 0 1 && (t.id == 0 || t.player == 0))
def ct (x : It) (q : Bool) : Bool :=
 aq x.player 0 1 && (aq x.id 1 500 && (aq x.card 0 399 && (aq x.trig (-1) 1 && (!(decide ((x.tgs.length : Int) > 4) || (decide (x.trig ≥ 0) && decide ((x.tgs.length : Int) > 0)) || (q && decide (x.trig < 0))) && !x.tgs.any (fun t => !d6 t)))))
def ib {α : Type} (p : α → Bool) : List α → Int → Int
 | [], _ => -1
 | a :: r, i => if p a then i else ib p r (i + 1)
theorem xK {α : Type} (p : α → Bool) : ∀ (l : List α) (i : Int), 0 ≤ i → decide (0 ≤ ib p l i) = l.any p
 | [], i, _ => by simp [ib]
 | a :: r, i, h => by
  simp only [ib, List.any_cons]
  by_cases hx : p a
  ·simp [hx, h]
  ·simp only [hx, Bool.false_eq_true, if_false, Bool.false_or]
   exact xK p r (i + 1) (by omega)
end Go.Sx
namespace Go.Proofs.YtieaihgbjikggaaGreat
open Go Go.Sx
set_option maxRecDepth 100000
set_option maxHeartbeats 1000000
theorem J4 (t : Tg) (H : Heap) (O : Own) : RetO PP tQ [.agg #[iV t.id, iV t.player]] H O (.bool (d6 t)) := by
 refine wU (vs := [iV t.id, iV t.player]) (by kernel_rfl) ⟨rfl, rfl, trivial⟩ ?_
 simp only [oy]
 refine fun r0 => ae (aj (dd t.id 0 500 H O) rfl ⟨rfl, trivial⟩ fun H1 _ => ak (fun hb => ae ?_) (fun hb => ah ⟨?_, rfl⟩))
 ·refine aj (dd t.player 0 1 H1 O) rfl ⟨rfl, trivial⟩ fun H2 _ => ?_
  refine ae (af (af (ab _ (aF _ _) (af (ae (af (af (af (af (ab _ (aF _ _) (af (af (af (ab _ (aA _ _) (af (ab _ (bE _ _) ?_))))))))))))))))
  refine ah ⟨?_, rfl⟩
  simp only [d6, aq, hb, Bool.true_and]
 ·simp only [d6, aq, hb, Bool.false_and]
theorem IB (t : Tg) (H : Heap) (O : Own) : RetO PP rS [.agg #[iV t.id, iV t.player]] H O (.bool (!d6 t)) := by
 refine vF (vs := [iV t.id, iV t.player]) (by kernel_rfl) ⟨rfl, rfl, trivial⟩ ?_
 simp only [mF]
 exact fun r0 => ae (aj (J4 t H O) rfl ⟨rfl, trivial⟩ fun H1 _ => ab _ (az _) (ah ⟨rfl, rfl⟩))
theorem tq {H : Heap} {O : Own} {v fv : Value} {l : List Tg} {p : Tg → Bool} (h : RSl H O 2 v (l.map Tg.row)) {f : FuncId} (hf : fv = .func (.func f) #[] #[]) (hok : rn PP f)
  (hp : ∀ H', Heap.le H H' → ∀ t, RetO PP f [.agg #[iV t.id, iV t.player]] H' O (.bool (p t))) : RetO PP cG [v, fv] H O (iV (ib p l 0)) := by
 subst hf
 refine eM (vs := [v, .func (.func f) #[] #[]]) (by kernel_rfl) ⟨h.one, rfl, trivial⟩ ?_
 simp only [bI]
 refine ab _ h.len ?_
 rw [List.length_map]
 refine aR l.length (fun i H' O' => O' = O ∧ Heap.le H H' ∧ ib p l 0 = ib p (l.drop i) i) ⟨rfl, Heap.le_refl H, by simp⟩ ?_
 rintro i H' O' hi - ⟨rfl, hle, hor⟩
 refine ab _ (aB _ _) (ak (fun hb => ?_) (fun hb => ?_))
 ·have hlt : i < l.length := by simpa using hb
  obtain ⟨a, h1, h2, _, h3, h4⟩ := (h.le hle).idx .i64 i (Tg.row l[i]) (by simp [hlt])
  refine ab _ h1 (ap h2 h3 h4 (eQ rfl hok (hp H' hle l[i]) rfl ⟨rfl, trivial⟩ fun H2 hle2 => ak (fun hb => ?_) (fun hb => ?_)))
  ·refine ah ⟨?_, rfl⟩
   rw [hor, List.drop_eq_getElem_cons hlt, ib, if_pos hb]; rfl
  ·refine ab _ (ax (by have := h.lenB; simp at this; omega)) (aK (by simp [Eqs, E]) hlt ⟨rfl, Heap.le_trans hle hle2, ?_⟩)
   rw [hor, List.drop_eq_getElem_cons hlt, ib, if_neg (by rw [hb]; simp)]; rfl
 ·have hge : l.length ≤ i := by simpa using hb
  refine ah ⟨?_, rfl⟩
  rw [hor, List.drop_of_length_le hge]; rfl
theorem qy {H : Heap} {O : Own} {v fv : Value} {l : List Tg} {p : Tg → Bool} (h : RSl H O 2 v (l.map Tg.row)) {f : FuncId} (hf : fv = .func (.func f) #[] #[]) (hok : rn PP f)
  (hp : ∀ H', Heap.le H H' → ∀ t, RetO PP f [.agg #[iV t.id, iV t.player]] H' O (.bool (p t))) : RetO PP cC [v, fv] H O (.bool (l.any p)) := by
 have hone : fv.oneCell' = true := by subst hf; rfl
 refine dW (vs := [v, fv]) (by kernel_rfl) ⟨h.one, hone, trivial⟩ ?_
 simp only [bt]
 refine aj (tq h hf hok hp) rfl ⟨rfl, trivial⟩ fun H1 _ => ab _ (dS _ _) (ah ⟨?_, rfl⟩)
 rw [← xK p l 0 (by omega)]
theorem Ja {H : Heap} {O : Own} {row : List Value} {x : It} (h : ItR H O row x) (q : Bool) : RetO PP vt [.agg row.toArray, .bool q] H O (.bool (ct x q)) := by
 obtain ⟨s, rfl, hs⟩ := h
 refine yH (vs := [iV x.player, iV x.id, iV x.card, iV x.trig, s, .bool q]) (by kernel_rfl) ⟨rfl, rfl, rfl, rfl, hs.one, rfl, trivial⟩ ?_
 simp only [qE]
 have hlen : al .len [s] = some (iV x.tgs.length) := by have := hs.len; rwa [List.length_map] at this
 refine fun r0 => ae (aj (dd x.player 0 1 H O) rfl ⟨rfl, trivial⟩ fun H1 l1 => ak (fun h1 => ae ?_) (fun h1 => ah ⟨by simp only [ct, aq, h1, Bool.false_and], rfl⟩))
 refine aj (dd x.id 1 500 H1 O) rfl ⟨rfl, trivial⟩ fun H2 l2 => ak (fun h2 => ae ?_) (fun h2 => ah ⟨by simp only [ct, aq, h1, h2, Bool.false_and, Bool.true_and], rfl⟩)
 refine aj (dd x.card 0 399 H2 O) rfl ⟨rfl, trivial⟩ fun H3 l3 => ak (fun h3 => ae ?_) (fun h3 => ah ⟨by simp only [ct, aq, h1, h2, h3, Bool.false_and, Bool.true_and], rfl⟩)
 refine aj (dd x.trig (-1) 1 H3 O) rfl ⟨rfl, trivial⟩ fun H4 l4 => ?_
 repeat (first | refine ae ?_ | refine af ?_ | refine ab _ hlen ?_ | refine ab _ (aB _ _) ?_ | refine ab _ (cR _ _) ?_ | refine ab _ (dS _ _) ?_ | refine ab _ (bE _ _) ?_ | refine ab _ (aA _ _) ?_ | refine ab _ (az _) ?_)
 have hle := Heap.le_trans (Heap.le_trans (Heap.le_trans l1 l2) l3) l4
 have hfb : ct x q = (!(!decide (-1 ≤ x.trig ∧ x.trig ≤ 1) || decide ((x.tgs.length : Int) > 4) || (decide (x.trig ≥ 0) && decide ((x.tgs.length : Int) > 0)) || (q && decide (x.trig < 0))) && !x.tgs.any (fun t => !d6 t)) := by
  simp only [ct, aq, h1, h2, h3, Bool.true_and]
  cases decide (-1 ≤ x.trig ∧ x.trig ≤ 1) <;> simp
 refine ak (fun hb => ah ⟨?_, rfl⟩) (fun hb => ae ?_)
 ·rw [hfb, hb]; simp
 ·refine aj (qy (p := fun t => !d6 t) (hs.le hle) rfl (jF aE (by decide)) fun H' _ t => IB t H' O) rfl ⟨rfl, trivial⟩ fun H5 _ => ab _ (az _) (ah ⟨?_, rfl⟩)
  rw [hfb, hb]; simp
end Go.Proofs.YtieaihgbjikggaaGreat
namespace Go.Proofs.YtieaihgbjikggaaGreat
open Go Go.Sx
set_option maxRecDepth 100000
set_option maxHeartbeats 1000000
theorem oK {H : Heap} {O : Own} {v fv : Value} {l : List It} {p : It → Bool} (h : ItsR H O v l) {f : FuncId} {caps : Array Value} (hf : fv = .func (.func f) #[] caps) (hok : rn PP f)
  (hp : ∀ H', Heap.le H H' → ∀ row x, ItR H' O row x → RetO PP f ([.agg row.toArray] ++ caps.toList) H' O (.bool (p x))) : RetO PP ce [v, fv] H O (iV (ib p l 0)) := by
 subst hf
 obtain ⟨rows, hr, hlen, hit⟩ := h
 refine cQ (vs := [v, .func (.func f) #[] caps]) (by kernel_rfl) ⟨hr.one, rfl, trivial⟩ ?_
 simp only [bj]
 refine ab _ hr.len ?_
 rw [hlen]
 refine aR l.length (fun i H' O' => O' = O ∧ Heap.le H H' ∧ ib p l 0 = ib p (l.drop i) i) ⟨rfl, Heap.le_refl H, by simp⟩ ?_
 rintro i H' O' hi - ⟨rfl, hle, hor⟩
 refine ab _ (aB _ _) (ak (fun hb => ?_) (fun hb => ?_))
 ·have hlt : i < l.length := by simpa using hb
  have hlt' : i < rows.length := by omega
  obtain ⟨a, h1, h2, _, h3, h4⟩ := (hr.le hle).idx .i64 i rows[i] (by simp [hlt'])
  have hx := (hit i rows[i] l[i] (by simp [hlt']) (by simp [hlt])).le hle
  have hx' := hx
  obtain ⟨s, hrow, hs⟩ := hx
  have hcall := hp H' hle rows[i] l[i] hx'
  rw [hrow] at h2 h3 h4 hcall
  refine ab _ h1 (ap h2 h3 h4 (eQ rfl hok hcall rfl ⟨rfl, trivial⟩ fun H2 hle2 => ak (fun hb => ?_) (fun hb => ?_)))
  ·refine ah ⟨?_, rfl⟩
   rw [hor, List.drop_eq_getElem_cons hlt, ib, if_pos hb]; rfl
  ·refine ab _ (ax (by have := hr.lenB; omega)) (aK (by simp [Eqs, E]) hlt ⟨rfl, Heap.le_trans hle hle2, ?_⟩)
   rw [hor, List.drop_eq_getElem_cons hlt, ib, if_neg (by rw [hb]; simp)]; rfl
 ·have hge : l.length ≤ i := by simpa using hb
  refine ah ⟨?_, rfl⟩
  rw [hor, List.drop_of_length_le hge]; rfl
theorem ItsR.one {H : Heap} {O : Own} {v : Value} {l : List It} (h : ItsR H O v l) : v.oneCell' = true := by
 obtain ⟨_, h, _⟩ := h
 exact h.one
theorem ItsR.len {H : Heap} {O : Own} {v : Value} {l : List It} (h : ItsR H O v l) : al .len [v] = some (iV l.length) := by
 obtain ⟨rows, h1, h2, _⟩ := h
 rw [h1.len, h2]
theorem lc {H : Heap} {O : Own} {v fv : Value} {l : List It} {p : It → Bool} (h : ItsR H O v l) {f : FuncId} {caps : Array Value} (hf : fv = .func (.func f) #[] caps) (hok : rn PP f)
  (hp : ∀ H', Heap.le H H' → ∀ row x, ItR H' O row x → RetO PP f ([.agg row.toArray] ++ caps.toList) H' O (.bool (p x))) : RetO PP cP [v, fv] H O (.bool (l.any p)) := by
 have hone : fv.oneCell' = true := by subst hf; rfl
 refine eZ (vs := [v, fv]) (by kernel_rfl) ⟨ItsR.one h, hone, trivial⟩ ?_
 simp only [bO]
 refine aj (oK h hf hok hp) rfl ⟨rfl, trivial⟩ fun H1 _ => ab _ (dS _ _) (ah ⟨?_, rfl⟩)
 rw [← xK p l 0 (by omega)]
theorem Hl {H : Heap} {O : Own} {row : List Value} {x : It} (h : ItR H O row x) : RetO PP qN [.agg row.toArray] H O (.bool (!ct x false)) := by
 have hf := Ja h false
 obtain ⟨s, rfl, hs⟩ := h
 refine t7 (vs := [iV x.player, iV x.id, iV x.card, iV x.trig, s]) (by kernel_rfl) ⟨rfl, rfl, rfl, rfl, hs.one, trivial⟩ ?_
 simp only [ll]
 exact fun r0 => ae (aj hf rfl ⟨rfl, trivial⟩ fun H1 _ => ab _ (az _) (ah ⟨rfl, rfl⟩))
theorem Hk {H : Heap} {O : Own} {row : List Value} {x : It} (h : ItR H O row x) : RetO PP qM [.agg row.toArray] H O (.bool (!ct x true)) := by
 have hf := Ja h true
 obtain ⟨s, rfl, hs⟩ := h
 refine t6 (vs := [iV x.player, iV x.id, iV x.card, iV x.trig, s]) (by kernel_rfl) ⟨rfl, rfl, rfl, rfl, hs.one, trivial⟩ ?_
 simp only [lk]
 exact fun r0 => ae (aj hf rfl ⟨rfl, trivial⟩ fun H1 _ => ab _ (az _) (ah ⟨rfl, rfl⟩))
theorem Ht {l : List Value} {i : Nat} {v : Value} (h : l[i]? = some v) : al .aidx (iV i :: l) = some v := by
 have hlt := (List.getElem?_eq_some_iff.1 h).1
 simp only [al, rj]
 rw [if_pos ⟨by omega, by omega⟩]
 simpa using h
theorem Bm (a b c d m : Int) (H : Heap) (O : Own) : RetO PP tM [.agg #[iV a, iV b, iV c, iV d], iV m] H O (.bool ([a, b, c, d].all fun n => aq n 0 m)) := by
 refine wM (vs := [iV a, iV b, iV c, iV d, iV m]) (by kernel_rfl) ⟨rfl, rfl, rfl, rfl, rfl, trivial⟩ ?_
 simp only [oi]
 refine fun r0 => ae (aR 4 (fun i H' O' => O' = O ∧ ([a, b, c, d].all fun n => aq n 0 m) = (([a, b, c, d].drop i).all fun n => aq n 0 m)) ⟨rfl, rfl⟩ ?_)
 rintro i H' O' hi - ⟨rfl, hor⟩
 refine ab _ (aB _ _) (ak (fun hb => ?_) (fun hb => ?_))
 ·have hlt : i < 4 := by have := of_decide_eq_true hb; omega
  have hlt' : i < [a, b, c, d].length := hlt
  have hv : [iV a, iV b, iV c, iV d][i]? = some (iV [a, b, c, d][i]) := by
   have : [iV a, iV b, iV c, iV d] = [a, b, c, d].map iV := rfl
   rw [this, List.getElem?_map, List.getElem?_eq_getElem hlt']; rfl
  refine ab _ (Ht hv) (ab _ (aB _ _) (af (af (ab _ (cR _ _) (af (ab _ (aA _ _) (ak (fun hb => ah ⟨?_, rfl⟩) (fun hb => ab _ (ax (by omega)) (aK (by simp [Eqs, E]) hlt ⟨rfl, ?_⟩)))))))))
  ·rw [hor, List.drop_eq_getElem_cons hlt', List.all_cons]
   have : aq [a, b, c, d][i] 0 m = false := by simp [aq] at hb ⊢; omega
   rw [this]; rfl
  ·rw [hor, List.drop_eq_getElem_cons hlt', List.all_cons]
   have : aq [a, b, c, d][i] 0 m = true := by simp [aq] at hb ⊢; omega
   rw [this]; rfl
 ·have : i = 4 := by have := of_decide_eq_false hb; omega
  subst this
  exact ah ⟨by rw [hor]; rfl, rfl⟩
theorem vm (a b c d : Int) (H : Heap) (O : Own) : RetO PP vr [.agg #[iV a, iV b, iV c, iV d]] H O (.bool ([a, b, c, d].all fun n => aq n 0 99)) := by
 refine yG (vs := [iV a, iV b, iV c, iV d]) (by kernel_rfl) ⟨rfl, rfl, rfl, rfl, trivial⟩ ?_
 simp only [qD]
 exact fun r0 => ae (aj (Bm a b c d 99 H O) rfl ⟨rfl, trivial⟩ fun H1 _ => ah ⟨rfl, rfl⟩)
def ba (o : Ob) : Bool := ([o.power, o.tough, o.dmg, o.cnt, o.pp, o.pt].all fun n => aq n 0 99) &&
 ((((((o.card == -1) || ((o.power == 0) && (o.tough == 0))) && decide (o.id ≥ 1)) && decide (o.id ≤ 500)) && decide (o.card ≥ -1)) && decide (o.card < 400)) && ((o.owner == 0) || (o.owner == 1))
theorem yY (o : Ob) (H : Heap) (O : Own) : RetO PP rO [.agg o.row.toArray] H O (.bool (ba o)) := by
 refine vB (vs := o.row) (by kernel_rfl) (by simp [Ob.row, Ones, Value.oneCell']) ?_
 simp only [mB]
 refine fun r0 => ae (ae (ae (ae (ae (ae (aR 6 (fun i H' O' => O' = O ∧ ([o.power, o.tough, o.dmg, o.cnt, o.pp, o.pt].all fun n => aq n 0 99) = (([o.power, o.tough, o.dmg, o.cnt, o.pp, o.pt].drop i).all fun n => aq n 0 99)) ⟨rfl, rfl⟩ ?_))))))
 rintro i H' O' hi - ⟨rfl, hor⟩
 refine ab _ (aB _ _) (ak (fun hb => ?_) (fun hb => ?_))
 ·have hlt : i < 6 := by have := of_decide_eq_true hb; omega
  have hlt' : i < [o.power, o.tough, o.dmg, o.cnt, o.pp, o.pt].length := hlt
  have hv : [iV o.power, iV o.tough, iV o.dmg, iV o.cnt, iV o.pp, iV o.pt][i]? = some (iV [o.power, o.tough, o.dmg, o.cnt, o.pp, o.pt][i]) := by
   have : [iV o.power, iV o.tough, iV o.dmg, iV o.cnt, iV o.pp, iV o.pt] = [o.power, o.tough, o.dmg, o.cnt, o.pp, o.pt].map iV := rfl
   rw [this, List.getElem?_map, List.getElem?_eq_getElem hlt']; rfl
  refine ab _ (Ht hv) (ab _ (aB _ _) (af (ab _ (cR _ _) (af (ab _ (aA _ _) (ak (fun hb => ah ⟨?_, rfl⟩) (fun hb => ab _ (ax (by omega)) (aK (by simp [Eqs, E]) hlt ⟨rfl, ?_⟩))))))))
  ·have hf : ([o.power, o.tough, o.dmg, o.cnt, o.pp, o.pt].all fun n => aq n 0 99) = false := by
    rw [hor, List.drop_eq_getElem_cons hlt', List.all_cons]
    have : aq [o.power, o.tough, o.dmg, o.cnt, o.pp, o.pt][i] 0 99 = false := by simp [aq] at hb ⊢; omega
    rw [this]; rfl
   unfold ba; rw [hf]; rfl
  ·rw [hor, List.drop_eq_getElem_cons hlt', List.all_cons]
   have : aq [o.power, o.tough, o.dmg, o.cnt, o.pp, o.pt][i] 0 99 = true := by simp [aq] at hb ⊢; omega
   rw [this]; rfl
 ·have : i = 6 := by have := of_decide_eq_false hb; omega
  subst this
  repeat (first | refine ae ?_ | refine af ?_ | refine ai fun _ => ?_ | refine ab _ (aB _ _) ?_ | refine ab _ (cR _ _) ?_ | refine ab _ (ef _ _) ?_ | refine ab _ (dS _ _) ?_ | refine ab _ (aF _ _) ?_ | refine ab _ (aX _ _) ?_ | refine ab _ (bE _ _) ?_ | refine ab _ (aA _ _) ?_ | refine ab _ (az _) ?_ | refine ab _ (su _ _) ?_ | refine ab _ (nQ _ _) ?_)
  refine ah ⟨?_, rfl⟩
  have hall : ([o.power, o.tough, o.dmg, o.cnt, o.pp, o.pt].all fun n => aq n 0 99) = true := by rw [hor]; rfl
  unfold ba; rw [hall, Bool.true_and]
end Go.Proofs.YtieaihgbjikggaaGreat
namespace Go.Proofs.YtieaihgbjikggaaGreat
open Go Go.Sx
set_option maxRecDepth 100000
set_option maxHeartbeats 1000000
theorem qW {P : Program} {gd : Gd} {op : PrimOp} {args : List Value} {k : Value → Tree} {H : Heap} {O : Own} {Q : Value → Heap → Own → Prop} {v : Value} (h : Eg P op args = some v) (hk : (k v).den P Q H O) :
  (Tree.raw gd op args k).den P Q H O := ⟨v, fun _ w => (wk h w).1, (wk h default).2, hk⟩
def Bj : List Bool → Option Bool
 | [] => some true
 | b :: r => match some b with | some true => Bj r | some false => some false | none => none
theorem nh : ∀ l : List Bool, Bj l = some (l.all id)
 | [] => rfl
 | true :: r => by simp [Bj, nh r]
 | false :: r => by simp [Bj]
theorem LA (o p : Ob) : Eg PP (.eqv .neq dN false) [.agg o.row.toArray, .agg p.row.toArray] = some (.bool (!(o == p))) := by
 have e : Eg PP (.eqv .neq dN false) [.agg o.row.toArray, .agg p.row.toArray] = (Bj [o.id == p.id, o.card == p.card, o.owner == p.owner, o.power == p.power, o.tough == p.tough, o.dmg == p.dmg, o.cnt == p.cnt, o.pp == p.pp, o.pt == p.pt, o.tap == p.tap, o.sick == p.sick, o.doom == p.doom]).map fun b => .bool (!b) := by kernel_rfl
 rw [e, nh]
 simp only [Option.map_some, Option.some.injEq, Value.bool.injEq]
 congr 1
 cases o; cases p
 rw [Bool.eq_iff_iff]
 simp
theorem Lz (o p : Tg) : Eg PP (.eqv .neq ar false) [.agg o.row.toArray, .agg p.row.toArray] = some (.bool (!(o == p))) := by
 have e : Eg PP (.eqv .neq ar false) [.agg o.row.toArray, .agg p.row.toArray] = (Bj [o.id == p.id, o.player == p.player]).map fun b => .bool (!b) := by kernel_rfl
 rw [e, nh]
 simp only [Option.map_some, Option.some.injEq, Value.bool.injEq]
 congr 1
 cases o; cases p
 rw [Bool.eq_iff_iff]
 simp
theorem LD (o p : Bl) : Eg PP (.eqv .neq bL false) [.agg o.row.toArray, .agg p.row.toArray] = some (.bool (!(o == p))) := by
 have e : Eg PP (.eqv .neq bL false) [.agg o.row.toArray, .agg p.row.toArray] = (Bj [o.blocker == p.blocker, o.attacker == p.attacker]).map fun b => .bool (!b) := by kernel_rfl
 rw [e, nh]
 simp only [Option.map_some, Option.some.injEq, Value.bool.injEq]
 congr 1
 cases o; cases p
 rw [Bool.eq_iff_iff]
 simp
theorem I0 (a b c d a' b' c' d' : Int) : Eg PP (.eqv .neq yo false) [.agg #[iV a, iV b, iV c, iV d], .agg #[iV a', iV b', iV c', iV d']] = some (.bool (!(a == a' && (b == b' && (c == c' && d == d'))))) := by
 have e : Eg PP (.eqv .neq yo false) [.agg #[iV a, iV b, iV c, iV d], .agg #[iV a', iV b', iV c', iV d']] = (Bj [a == a', b == b', c == c', d == d']).map fun b => .bool (!b) := by kernel_rfl
 rw [e, nh]
 simp
theorem sV {H : Heap} {O : Own} {v v' : Value} {l l' : List Int} (h : RSl H O 1 v (aO l)) (h' : RSl H O 1 v' (aO l')) : RetO PP lw [v, v'] H O (.bool (l == l')) := by
 refine pQ (vs := [v, v']) (by kernel_rfl) ⟨h.one, h'.one, trivial⟩ ?_
 simp only [gZ]
 have hl := h.len
 have hl' := h'.len
 rw [aO, List.length_map] at hl hl'
 refine ab _ hl (ab _ hl' (ab _ (aX _ _) (ak (fun hb => ah ⟨?_, rfl⟩) (fun hb => ?_))))
 ·have : l ≠ l' := by intro e; subst e; simp at hb
  simp [this]
 ·have hlen : l.length = l'.length := by simp at hb; omega
  refine aR l.length (fun i H' O' => O' = O ∧ Heap.le H H' ∧ l.take i = l'.take i) ⟨rfl, Heap.le_refl H, by simp⟩ ?_
  rintro i H' O' hi - ⟨rfl, hle, hor⟩
  refine ab _ hl (ab _ (aB _ _) (ak (fun hb => ?_) (fun hb => ?_)))
  ·have hlt : i < l.length := by simpa using hb
   have hlt' : i < l'.length := by omega
   obtain ⟨a, h1, h2, _, h3, h4⟩ := (h.le hle).idx .i64 i [iV l[i]] (by simp [aO, hlt])
   obtain ⟨b, k1, k2, _, k3, k4⟩ := (h'.le hle).idx .i64 i [iV l'[i]] (by simp [aO, hlt'])
   refine ab _ h1 (ap h2 h3 h4 (ab _ k1 (ap k2 k3 k4 (ab _ (aX _ _) (ak (fun hb => ah ⟨?_, rfl⟩) (fun hb => ?_))))))
   ·have hne : l[i] ≠ l'[i] := by simpa using hb
    have : l ≠ l' := by rintro rfl; exact hne rfl
    simp [this]
   ·have he : l[i] = l'[i] := by simpa using hb
    refine ab _ (ax (by have := h.lenB; simp [aO] at this; omega)) (aK (by simp [Eqs, E]) hlt ⟨rfl, hle, ?_⟩)
    rw [List.take_add_one, List.take_add_one, hor, List.getElem?_eq_getElem hlt, List.getElem?_eq_getElem hlt', he]
  ·have hge : l.length ≤ i := by simpa using hb
   refine ah ⟨?_, rfl⟩
   rw [List.take_of_length_le hge, List.take_of_length_le (by omega)] at hor
   simp [hor]
theorem mW {H : Heap} {O : Own} {row row' : List Value} {x y : It} (h : ItR H O row x) (h' : ItR H O row' y) : RetO PP iM [.agg row.toArray, .agg row'.toArray] H O (.bool (x == y)) := by
 obtain ⟨s, rfl, hs⟩ := h
 obtain ⟨s', rfl, hs'⟩ := h'
 refine ma (vs := [iV x.player, iV x.id, iV x.card, iV x.trig, s, iV y.player, iV y.id, iV y.card, iV y.trig, s']) (by kernel_rfl) ⟨rfl, rfl, rfl, rfl, hs.one, rfl, rfl, rfl, rfl, hs'.one, trivial⟩ ?_
 simp only [eF]
 have hl := hs.len
 have hl' := hs'.len
 rw [List.length_map] at hl hl'
 repeat (first | refine ae ?_ | refine af ?_ | refine ai fun _ => ?_ | refine ab _ hl ?_ | refine ab _ hl' ?_ | refine ab _ (aX _ _) ?_ | refine ab _ (aA _ _) ?_)
 refine ak (fun hb => ah ⟨?_, rfl⟩) (fun hb => ?_)
 ·have : x ≠ y := by rintro rfl; simp at hb
  simp [this]
 ·simp only [Bool.or_eq_false_iff, bne_eq_false_iff_eq] at hb
  obtain ⟨⟨⟨⟨h1, h2⟩, h3⟩, h4⟩, h5⟩ := hb
  have hlen : x.tgs.length = y.tgs.length := by omega
  have hxy : (x == y) = (x.tgs == y.tgs) := by
   rw [Bool.eq_iff_iff]
   cases x; cases y
   simp only at h1 h2 h3 h4
   subst h1; subst h2; subst h3; subst h4
   simp
  rw [hxy]
  refine aR x.tgs.length (fun i H' O' => O' = O ∧ Heap.le H H' ∧ x.tgs.take i = y.tgs.take i) ⟨rfl, Heap.le_refl H, by simp⟩ ?_
  rintro i H' O' hi - ⟨rfl, hle, hor⟩
  refine ae (ab _ hl (ab _ (aB _ _) (ak (fun hb => ?_) (fun hb => ?_))))
  ·have hlt : i < x.tgs.length := by simpa using hb
   have hlt' : i < y.tgs.length := by omega
   obtain ⟨a, h1, h2, _, h3, h4⟩ := (hs.le hle).idx .i64 i (Tg.row x.tgs[i]) (by simp [hlt])
   obtain ⟨b, k1, k2, _, k3, k4⟩ := (hs'.le hle).idx .i64 i (Tg.row y.tgs[i]) (by simp [hlt'])
   refine ae (ab _ h1 (ap h2 h3 h4 (ae (ab _ k1 (ap k2 k3 k4 (qW (Lz x.tgs[i] y.tgs[i]) (ak (fun hb => ah ⟨?_, rfl⟩) (fun hb => ?_))))))))
   ·have hne : x.tgs[i] ≠ y.tgs[i] := by simpa using hb
    have : x.tgs ≠ y.tgs := fun e => hne (by simp only [e])
    simp [this]
   ·have he : x.tgs[i] = y.tgs[i] := by simpa using hb
    refine ab _ (ax (by have := hs.lenB; simp at this; omega)) (aK (by simp [Eqs, E]) hlt ⟨rfl, hle, ?_⟩)
    rw [List.take_add_one, List.take_add_one, hor, List.getElem?_eq_getElem hlt, List.getElem?_eq_getElem hlt', he]
  ·have hge : x.tgs.length ≤ i := by simpa using hb
   refine ah ⟨?_, rfl⟩
   rw [List.take_of_length_le hge, List.take_of_length_le (by omega)] at hor
   simp [hor]
theorem Gk {H : Heap} {O : Own} {v v' : Value} {l l' : List It} (h : ItsR H O v l) (h' : ItsR H O v' l') : RetO PP jR [v, v'] H O (.bool (l == l')) := by
 have ho := ItsR.one h
 have ho' := ItsR.one h'
 have hl := ItsR.len h
 have hl' := ItsR.len h'
 obtain ⟨rows, hr, hrl, hit⟩ := h
 obtain ⟨rows', hr', hrl', hit'⟩ := h'
 refine oQ (vs := [v, v']) (by kernel_rfl) ⟨ho, ho', trivial⟩ ?_
 simp only [gu]
 refine ab _ hl (ab _ hl' (ab _ (aX _ _) (ak (fun hb => ah ⟨?_, rfl⟩) (fun hb => ?_))))
 ·have : l ≠ l' := by intro e; subst e; simp at hb
  simp [this]
 ·have hlen : l.length = l'.length := by simp at hb; omega
  refine aR l.length (fun i H' O' => O' = O ∧ Heap.le H H' ∧ l.take i = l'.take i) ⟨rfl, Heap.le_refl H, by simp⟩ ?_
  rintro i H' O' hi - ⟨rfl, hle, hor⟩
  refine ab _ hl (ab _ (aB _ _) (ak (fun hb => ?_) (fun hb => ?_)))
  ·have hlt : i < l.length := by simpa using hb
   have hlt' : i < l'.length := by omega
   have hx := (hit i rows[i] l[i] (by simp [hrl, hlt]) (by simp [hlt])).le hle
   have hy := (hit' i rows'[i] l'[i] (by simp [hrl', hlt']) (by simp [hlt'])).le hle
   obtain ⟨a, h1, h2, _, h3, h4⟩ := (hr.le hle).idx .i64 i rows[i] (by simp [hrl, hlt])
   obtain ⟨b, k1, k2, _, k3, k4⟩ := (hr'.le hle).idx .i64 i rows'[i] (by simp [hrl', hlt'])
   have hc := mW hx hy
   obtain ⟨s, hrow, _⟩ := hx
   obtain ⟨s', hrow', _⟩ := hy
   rw [hrow] at h2 h3 h4 hc
   rw [hrow'] at k2 k3 k4 hc
   refine ab _ h1 (ap h2 h3 h4 (ab _ k1 (ap k2 k3 k4 (aj hc rfl ⟨rfl, trivial⟩ fun H2 hle2 => ab _ (az _) (ak (fun hb => ah ⟨?_, rfl⟩) (fun hb => ?_))))))
   ·have hne : l[i] ≠ l'[i] := by simpa using hb
    have : l ≠ l' := by rintro rfl; exact hne rfl
    simp [this]
   ·have he : l[i] = l'[i] := by simpa using hb
    refine ab _ (ax (by have := hr.lenB; omega)) (aK (by simp [Eqs, E]) hlt ⟨rfl, Heap.le_trans hle hle2, ?_⟩)
    rw [List.take_add_one, List.take_add_one, hor, List.getElem?_eq_getElem hlt, List.getElem?_eq_getElem hlt', he]
  ·have hge : l.length ≤ i := by simpa using hb
   refine ah ⟨?_, rfl⟩
   rw [List.take_of_length_le hge, List.take_of_length_le (by omega)] at hor
   simp [hor]
theorem me {vl vh vf vg : Value} (s : St) (hl : vl.oneCell' = true) (hh : vh.oneCell' = true) (hf : vf.oneCell' = true) (hg : vg.oneCell' = true) (H : Heap) (O : Own) :
  RetO PP jT [.agg (HP vl vh vf vg s).toArray] H O (.agg #[vl, vh, vf, vg]) := by
 refine oS (vs := HP vl vh vf vg s) (by kernel_rfl) ⟨rfl, rfl, rfl, rfl, rfl, hl, hh, hf, hg, rfl, rfl, rfl, rfl, rfl, trivial⟩ ?_
 simp only [gw]
 refine ai fun _ => ai fun _ => ae (ae (ae (ae (ae (ae ?_)))))
 exact ah ⟨rfl, rfl⟩
theorem fq {H : Heap} {O : Own} {vl vh vf vg : Value} {s : St} (h : StR H O vl vh vf vg s) : vl.oneCell' = true ∧ vh.oneCell' = true ∧ vf.oneCell' = true ∧ vg.oneCell' = true := ⟨h.lib.one, h.hand.one, h.field.one, h.grave.one⟩
theorem au {H : Heap} {O : Own} {v : d8} {b : Bd} (h : BdR H O v b) : Ones (ay v b) := by
 obtain ⟨a1, a2, a3, a4⟩ := fq h.s0
 obtain ⟨b1, b2, b3, b4⟩ := fq h.s1
 exact ⟨h.objs.one, rfl, rfl, rfl, rfl, rfl, a1, a2, a3, a4, rfl, rfl, rfl, rfl, rfl, rfl, rfl, rfl, rfl, rfl, b1, b2, b3, b4, rfl, rfl, rfl, rfl, rfl, ItsR.one h.stack, ItsR.one h.queue, h.att.one, h.blocks.one, rfl, rfl, rfl, rfl, rfl, trivial⟩
theorem aP : ∀ {a b : List Value}, Ones a → Ones b → Ones (a ++ b)
 | [], _, _, h => h
 | _ :: _, _, h, h' => ⟨h.1, aP h.2 h'⟩
def Al (s t : St) : Bool :=
 !((((((((s.life != t.life || !(s.p0 == t.p0 && (s.p1 == t.p1 && (s.p2 == t.p2 && s.p3 == t.p3)))) || !(s.empty == t.empty)) || !(s.played == t.played)) || !(s.kept == t.kept)) || s.mull != t.mull) || s.acts != t.acts)))
theorem Lv (s t : St) : (s == t) = (Al s t && (s.lib == t.lib && (s.hand == t.hand && (s.field == t.field && s.grave == t.grave)))) := by
 cases s; cases t
 rw [Bool.eq_iff_iff]
 simp [Al]
 constructor
 ·rintro ⟨h1, h2, h3, h4, h5, h6, h7, h8, h9, h10, h11, h12, h13, h14⟩; simp_all
 ·rintro ⟨⟨⟨⟨⟨⟨⟨h1, h2, h3, h4, h5⟩, h6⟩, h7⟩, h8⟩, h9⟩, h10⟩, h11, h12, h13, h14⟩; simp_all
def DW (a b : Bd) : Bool := a.turn == b.turn && (a.active == b.active && (a.phase == b.phase && (a.holder == b.holder && a.passes == b.passes)))
theorem LE (a b : Bd) : (a == b) = (a.stack == b.stack && (a.queue == b.queue && (a.att == b.att && (DW a b && (a.objs == b.objs && (a.blocks == b.blocks && (a.s0 == b.s0 && a.s1 == b.s1))))))) := by
 cases a; cases b
 rw [Bool.eq_iff_iff]
 simp [DW]
 constructor
 ·rintro ⟨h1, h2, h3, h4, h5, h6, h7, h8, h9, h10, h11, h12⟩; simp_all
 ·rintro ⟨h1, h2, h3, ⟨h4, h5, h6, h7, h8⟩, h9, h10, h11, h12⟩; simp_all
theorem neB {α : Type} [BEq α] [LawfulBEq α] {a b : α} (h : a ≠ b) : (Value.bool false : Value) = .bool (a == b) := by simp [h]
theorem IR {H : Heap} {O : Own} {v w : d8} {a b : Bd} (h : BdR H O v a) (h' : BdR H O w b) : RetO PP lr [.agg (ay v a).toArray, .agg (ay w b).toArray] H O (.bool (a == b)) := by
 refine pJ (vs := ay v a ++ ay w b) (by kernel_rfl) (aP (au h) (au h')) ?_
 simp only [gX]
 have lo := h.objs.len
 have lo' := h'.objs.len
 have lb := h.blocks.len
 have lb' := h'.blocks.len
 rw [List.length_map] at lo lo' lb lb'
 refine ai fun r0 => ai fun r1 => ae (ab _ lo (ae (ab _ lo' (ab _ (aX _ _) (ak (fun hb => ah ⟨neB (by rintro rfl; simp at hb), rfl⟩) (fun hob => ?_))))))
 refine ae (ae (aj (Gk h.stack h'.stack) rfl ⟨rfl, trivial⟩ fun H1 l1 => ab _ (az _) (ak (fun hb => ah ⟨neB (by rintro rfl; simp at hb), rfl⟩) (fun hstack => ?_))))
 replace h := h.le l1
 replace h' := h'.le l1
 refine ae (ae (aj (Gk h.queue h'.queue) rfl ⟨rfl, trivial⟩ fun H2 l2 => ab _ (az _) (ak (fun hb => ah ⟨neB (by rintro rfl; simp at hb), rfl⟩) (fun hqueue => ?_))))
 replace h := h.le l2
 replace h' := h'.le l2
 refine ae (ae (aj (sV h.att h'.att) rfl ⟨rfl, trivial⟩ fun H3 l3 => ab _ (az _) ?_))
 replace h := h.le l3
 replace h' := h'.le l3
 repeat (first | refine ae ?_ | refine af ?_ | refine ab _ lb ?_ | refine ab _ lb' ?_ | refine ab _ (aX _ _) ?_ | refine ab _ (aA _ _) ?_)
 refine ak (fun hb => ah ⟨neB (by rintro rfl; simp at hb), rfl⟩) (fun hpl => ?_)
 have hol : a.objs.length = b.objs.length := by simp at hob; omega
 refine aR a.objs.length (fun i H' O' => O' = O ∧ Heap.le H3 H' ∧ a.objs.take i = b.objs.take i) ⟨rfl, Heap.le_refl H3, by simp⟩ ?_
 rintro i H4 O' hi - ⟨rfl, l4, hor⟩
 refine ae (ab _ lo (ab _ (aB _ _) (ak (fun hb => ?_) (fun hb => ?_))))
 ·have hlt : i < a.objs.length := by simpa using hb
  have hlt' : i < b.objs.length := by omega
  obtain ⟨p, h1, h2, _, h3, h4⟩ := (h.objs.le l4).idx .i64 i (Ob.row a.objs[i]) (by simp [hlt])
  obtain ⟨q, k1, k2, _, k3, k4⟩ := (h'.objs.le l4).idx .i64 i (Ob.row b.objs[i]) (by simp [hlt'])
  refine ae (ab _ h1 (ap h2 h3 h4 (ae (ab _ k1 (ap k2 k3 k4 (qW (LA a.objs[i] b.objs[i]) (ak (fun hb => ah ⟨?_, rfl⟩) (fun hb => ?_))))))))
  ·have hne : a.objs[i] ≠ b.objs[i] := by simpa using hb
   exact neB fun e => hne (by simp only [e])
  ·have he : a.objs[i] = b.objs[i] := by simpa using hb
   refine ab _ (ax (by have := h.objs.lenB; simp at this; omega)) (aK (by simp [Eqs, E]) hlt ⟨rfl, l4, ?_⟩)
   rw [List.take_add_one, List.take_add_one, hor, List.getElem?_eq_getElem hlt, List.getElem?_eq_getElem hlt', he]
 have hobj : a.objs = b.objs := by
  have hge : a.objs.length ≤ i := by simpa using hb
  rwa [List.take_of_length_le hge, List.take_of_length_le (by omega)] at hor
 clear hb hor hi
 replace h := h.le l4
 replace h' := h'.le l4
 have hbl : a.blocks.length = b.blocks.length := by simp at hpl; omega
 refine aR a.blocks.length (fun i H' O'' => O'' = O' ∧ Heap.le H4 H' ∧ a.blocks.take i = b.blocks.take i) ⟨rfl, Heap.le_refl H4, by simp⟩ ?_
 rintro i H5 O' hi - ⟨rfl, l5, hor⟩
 refine ae (ab _ lb (ab _ (aB _ _) (ak (fun hb => ?_) (fun hb => ?_))))
 ·have hlt : i < a.blocks.length := by simpa using hb
  have hlt' : i < b.blocks.length := by omega
  obtain ⟨p, h1, h2, _, h3, h4⟩ := (h.blocks.le l5).idx .i64 i (Bl.row a.blocks[i]) (by simp [hlt])
  obtain ⟨q, k1, k2, _, k3, k4⟩ := (h'.blocks.le l5).idx .i64 i (Bl.row b.blocks[i]) (by simp [hlt'])
  refine ae (ab _ h1 (ap h2 h3 h4 (ae (ab _ k1 (ap k2 k3 k4 (qW (LD a.blocks[i] b.blocks[i]) (ak (fun hb => ah ⟨?_, rfl⟩) (fun hb => ?_))))))))
  ·have hne : a.blocks[i] ≠ b.blocks[i] := by simpa using hb
   exact neB fun e => hne (by simp only [e])
  ·have he : a.blocks[i] = b.blocks[i] := by simpa using hb
   refine ab _ (ax (by have := h.blocks.lenB; simp at this; omega)) (aK (by simp [Eqs, E]) hlt ⟨rfl, l5, ?_⟩)
   rw [List.take_add_one, List.take_add_one, hor, List.getElem?_eq_getElem hlt, List.getElem?_eq_getElem hlt', he]
 have hblk : a.blocks = b.blocks := by
  have hge : a.blocks.length ≤ i := by simpa using hb
  rwa [List.take_of_length_le hge, List.take_of_length_le (by omega)] at hor
 clear hb hor hi
 replace h := h.le l5
 replace h' := h'.le l5
 obtain ⟨o1, o2, o3, o4⟩ := fq h.s0
 obtain ⟨o1', o2', o3', o4'⟩ := fq h'.s0
 obtain ⟨p1, p2, p3, p4⟩ := fq h.s1
 obtain ⟨p1', p2', p3', p4'⟩ := fq h'.s1
 repeat (first | refine ae ?_ | refine af ?_ | refine ai fun _ => ?_ | refine ab _ (aX _ _) ?_ | refine qW (I0 _ _ _ _ _ _ _ _) ?_ | refine ab _ (nQ _ _) ?_ | refine ab _ (aA _ _) ?_)
 refine ak (fun hb => ah ⟨neB (by rintro rfl; simp at hb), rfl⟩) (fun hs0 => ?_)
 refine ae (ae (aj (me a.s0 o1 o2 o3 o4 _ _) rfl ⟨o1, o2, o3, o4, trivial⟩ fun H6 l6 => aj (me b.s0 o1' o2' o3' o4' _ _) rfl ⟨o1', o2', o3', o4', trivial⟩ fun H7 l7 => ?_))
 replace h := (h.le l6).le l7
 replace h' := (h'.le l6).le l7
 refine ai fun _ => ai fun _ => ae (ae (ae (ae (aj (sV h.s0.lib h'.s0.lib) rfl ⟨rfl, trivial⟩ fun H8 l8 => ab _ (az _) (ak (fun hb => ah ⟨neB (by rintro rfl; simp at hb), rfl⟩) (fun hz1 => ?_))))))
 replace h := h.le l8
 replace h' := h'.le l8
 refine ae (ae (aj (sV h.s0.hand h'.s0.hand) rfl ⟨rfl, trivial⟩ fun H9 l9 => ab _ (az _) (ak (fun hb => ah ⟨neB (by rintro rfl; simp at hb), rfl⟩) (fun hz2 => ?_))))
 replace h := h.le l9
 replace h' := h'.le l9
 refine ae (ae (aj (sV h.s0.field h'.s0.field) rfl ⟨rfl, trivial⟩ fun H10 l10 => ab _ (az _) (ak (fun hb => ah ⟨neB (by rintro rfl; simp at hb), rfl⟩) (fun hz3 => ?_))))
 replace h := h.le l10
 replace h' := h'.le l10
 refine ae (ae (aj (sV h.s0.grave h'.s0.grave) rfl ⟨rfl, trivial⟩ fun H11 l11 => ab _ (az _) (ak (fun hb => ah ⟨neB (by rintro rfl; simp at hb), rfl⟩) (fun hz4 => ?_))))
 replace h := h.le l11
 replace h' := h'.le l11
 repeat (first | refine ae ?_ | refine af ?_ | refine ai fun _ => ?_ | refine ab _ (aX _ _) ?_ | refine qW (I0 _ _ _ _ _ _ _ _) ?_ | refine ab _ (nQ _ _) ?_ | refine ab _ (aA _ _) ?_)
 refine ak (fun hb => ah ⟨neB (by rintro rfl; simp at hb), rfl⟩) (fun hs1 => ?_)
 refine ae (ae (aj (me a.s1 p1 p2 p3 p4 _ _) rfl ⟨p1, p2, p3, p4, trivial⟩ fun H12 l12 => aj (me b.s1 p1' p2' p3' p4' _ _) rfl ⟨p1', p2', p3', p4', trivial⟩ fun H13 l13 => ?_))
 replace h := (h.le l12).le l13
 replace h' := (h'.le l12).le l13
 refine ai fun _ => ai fun _ => ae (ae (ae (ae (aj (sV h.s1.lib h'.s1.lib) rfl ⟨rfl, trivial⟩ fun H8 l8 => ab _ (az _) (ak (fun hb => ah ⟨neB (by rintro rfl; simp at hb), rfl⟩) (fun hy1 => ?_))))))
 replace h := h.le l8
 replace h' := h'.le l8
 refine ae (ae (aj (sV h.s1.hand h'.s1.hand) rfl ⟨rfl, trivial⟩ fun H9 l9 => ab _ (az _) (ak (fun hb => ah ⟨neB (by rintro rfl; simp at hb), rfl⟩) (fun hy2 => ?_))))
 replace h := h.le l9
 replace h' := h'.le l9
 refine ae (ae (aj (sV h.s1.field h'.s1.field) rfl ⟨rfl, trivial⟩ fun H10 l10 => ab _ (az _) (ak (fun hb => ah ⟨neB (by rintro rfl; simp at hb), rfl⟩) (fun hy3 => ?_))))
 replace h := h.le l10
 replace h' := h'.le l10
 refine ae (ae (aj (sV h.s1.grave h'.s1.grave) rfl ⟨rfl, trivial⟩ fun H11 l11 => ab _ (az _) (ak (fun hb => ah ⟨neB (by rintro rfl; simp at hb), rfl⟩) (fun hy4 => ?_))))
 refine ah ⟨?_, rfl⟩
 simp only [Bool.not_eq_false', Bool.or_eq_false_iff, bne_eq_false_iff_eq, beq_iff_eq] at hstack hqueue hpl hz1 hz2 hz3 hz4 hy1 hy2 hy3 hy4
 have e : a = b := by
  have e0 : (a.s0 == b.s0) = true := by
   rw [Lv, hz1, hz2, hz3, hz4]
   simp only [Al, hs0]
   simp
  have e1 : (a.s1 == b.s1) = true := by
   rw [Lv, hy1, hy2, hy3, hy4]
   simp only [Al, hs1]
   simp
  have : (a == b) = true := by
   rw [LE, e0, e1, hobj, hblk, hstack, hqueue]
   simp only [DW]
   simp_all
  simpa using this
 simp [e]
end Go.Proofs.YtieaihgbjikggaaGreat
namespace Go.Sx
open Go
def gJ (l : List (Int × Int)) : By := l.map fun p => (p.1, iV p.2)
def cn (l : List (Int × Int)) (k : Int) : Option Int := (l.find? fun p => k == p.1).map (·.2)
theorem dp (l : List (Int × Int)) (k : Int) : cj (gJ l) k = (cn l k).map iV := by
 induction l with
 | nil => rfl
 | cons p r ih =>
  by_cases h : k = p.1
  ·simp [cj, cn, gJ, h]
  ·simp only [cj, cn, gJ, List.map_cons, List.find?_cons] at ih ⊢
   have hb : (k == p.1) = false := by simpa using h
   simp only [hb]
   exact ih
theorem eV {l : List (Int × Int)} {k : Int} : cn l k = none ↔ k ∉ l.map (·.1) := by
 induction l with
 | nil => simp [cn]
 | cons p r ih =>
  by_cases h : k = p.1
  ·simp [cn, h]
  ·have hb : (k == p.1) = false := by simpa using h
   simp only [cn, List.find?_cons, hb, List.map_cons, List.mem_cons, not_or] at ih ⊢
   rw [ih]; simp [h]
theorem hZ {l : List (Int × Int)} {k v : Int} (hn : (l.map (·.1)).Nodup) : cn l k = some v ↔ (k, v) ∈ l := by
 induction l with
 | nil => simp [cn]
 | cons p r ih =>
  simp only [List.map_cons, List.nodup_cons] at hn
  by_cases h : k = p.1
  ·simp only [cn, List.find?_cons, h, beq_self_eq_true, Option.map_some, Option.some.injEq, List.mem_cons]
   constructor
   ·rintro rfl; left; rfl
   ·rintro (h' | h')
    ·rw [← h']
    ·exact absurd (List.mem_map_of_mem (f := Prod.fst) h') hn.1
  ·have hb : (k == p.1) = false := by simpa using h
   have := ih hn.2
   simp only [cn, List.find?_cons, hb] at this ⊢
   rw [this]
   simp only [List.mem_cons]
   constructor
   ·exact .inr
   ·rintro (h' | h')
    ·exact absurd (congrArg Prod.fst h') h
    ·exact h'
theorem HG {m : By} {k : Int} {v : Value} (h : cj m k = none) : uO m k v = m ++ [(k, v)] := by
 refine BE ?_
 rw [List.findIdx?_eq_none_iff]
 intro p hp
 simp only [cj, Option.map_eq_none_iff, List.find?_eq_none] at h
 simpa using h p hp
theorem Ad {l : List (Int × Int)} {k v : Int} (h : k ∉ l.map (·.1)) : uO (gJ l) k (iV v) = gJ (l ++ [(k, v)]) := by
 rw [HG (by rw [dp, eV.2 h]; rfl)]
 simp [gJ]
def bF (s : St) (p : Int) : List (Int × Int) := (s.lib ++ (s.hand ++ (s.field ++ s.grave))).map fun i => (i, p)
def bz (l : List It) : List It := l.filter fun x => decide (x.trig < 0)
def cJ (l : List It) : List (Int × Int) := (bz l).map fun x => (x.id, x.player)
def aU (l : List It) : List (Int × Int) := (bz l).map fun x => (x.id, x.card)
def aH (b : Bd) : List (Int × Int) := bF b.s0 0 ++ (bF b.s1 1 ++ cJ b.stack)
def ip (prev : Option Int) (id : Int) : Bool := match prev with | some p => decide (p ≥ id) | none => false
def zq (ps cs : List (Int × Int)) (prev : Option Int) (valid : Bool) (o : Ob) : Bool :=
 !valid || ip prev o.id || (cn ps o.id).isNone || ((cn ps o.id).getD 0 != o.owner) || ((cn cs o.id).isSome && ((cn cs o.id).getD 0 != o.card))
theorem lM (l r : List It) : cJ (l ++ r) = cJ l ++ cJ r := by simp only [cJ, bz, List.filter_append, List.map_append]
theorem tp (l r : List It) : aU (l ++ r) = aU l ++ aU r := by simp only [aU, bz, List.filter_append, List.map_append]
theorem B9 {x : It} (h : x.trig < 0) : cJ [x] = [(x.id, x.player)] := by simp only [cJ, bz, List.filter_cons, h, decide_true, if_true, List.filter_nil, List.map_cons, List.map_nil]
theorem Fs {x : It} (h : x.trig < 0) : aU [x] = [(x.id, x.card)] := by simp only [aU, bz, List.filter_cons, h, decide_true, if_true, List.filter_nil, List.map_cons, List.map_nil]
theorem zn {x : It} (h : ¬ x.trig < 0) : cJ [x] = [] := by simp only [cJ, bz, List.filter_cons, h, decide_false, Bool.false_eq_true, if_false, List.filter_nil, List.map_nil]
theorem DI {x : It} (h : ¬ x.trig < 0) : aU [x] = [] := by simp only [aU, bz, List.filter_cons, h, decide_false, Bool.false_eq_true, if_false, List.filter_nil, List.map_nil]
def na (val : Ob → Bool) (ps cs : List (Int × Int)) : Option Int → List Ob → Bool
 | _, [] => true
 | prev, o :: r => !zq ps cs prev (val o) o && na val ps cs (some o.id) r
def bm (val : Ob → Bool) (b : Bd) : Bool := decide ((aH b).map (·.1)).Nodup && (na val (aH b) (aU b.stack) none b.objs && decide ((aH b).length = b.objs.length))
def kL (l : List Ob) (i : Nat) : Option Int := if i = 0 then none else (l[i - 1]?).map (·.id)
theorem sW {l : List Ob} {i : Nat} (h : i < l.length) : kL l (i + 1) = some l[i].id := by simp [kL, h]
def uz (att other : List Int) : List Int → List Int → List Bl → Bool
 | _, _, [] => true
 | ua, ub, x :: r => (!ua.contains x.attacker && att.contains x.attacker && (!ub.contains x.blocker && other.contains x.blocker)) && uz att other (x.attacker :: ua) (x.blocker :: ub) r
def jH (own other att : List Int) (bl : List Bl) : Bool := decide att.Nodup && (att.all (fun x => own.contains x) && uz att other [] [] bl)
def nu (att ua ub : List Int) (k : Int) : Bool := decide ((k ∈ att ∧ k ∉ ua) ∨ -k ∈ ub)
theorem HO {att ua ub : List Int} {m : By} {a c : Int} (h : ∀ k, (cj m k).getD (.bool false) = .bool (nu att ua ub k)) (hub : ∀ x ∈ ub, 0 < x) (ha : 0 < a) (hc : 0 < c) :
  ∀ k, (cj (uO (uO m a (.bool false)) (-c) (.bool true)) k).getD (.bool false) = .bool (nu att (a :: ua) (c :: ub) k) := by
 intro k
 rw [xB]
 by_cases h1 : k = -c
 ·rw [if_pos h1]
  have : nu att (a :: ua) (c :: ub) k = true := by
   simp only [nu, decide_eq_true_eq]
   right
   rw [h1]; simp
  rw [this]; rfl
 ·rw [if_neg h1, xB]
  by_cases h2 : k = a
  ·rw [if_pos h2]
   have : nu att (a :: ua) (c :: ub) k = false := by
    simp only [nu, decide_eq_false_iff_not, not_or, not_and]
    refine ⟨fun _ hn => hn (by rw [h2]; simp), ?_⟩
    rw [h2, List.mem_cons]
    rintro (h3 | h3)
    ·omega
    ·have := hub _ h3; omega
   rw [this]; rfl
  ·rw [if_neg h2, h k]
   congr 1
   simp only [nu, List.mem_cons, not_or]
   have : ¬ (-k = c) := by omega
   simp [this, h2]
end Go.Sx
namespace Go.Sx
open Go
theorem aC {P : Program} {f : FuncId} {args : List Value} {H : Heap} {O : Own} {R : Value → Heap → Own → Prop} {d : Bool} {shp : Shp} {K : List Value → List (List Value) → Heap → Own → Prop}
  (h : Triple P f args H [] R) (hk : ∀ v H' O1, R v H' O1 → Heap.le H H' → ∃ vs, shp.open v = some vs ∧ Ones vs ∧ K vs [] H' (O1 ++ O)) :
  il (fun H1 O1 R => Triple P f args H1 O1 R) d [] [] shp K H O := by
 intro _
 refine ⟨H, [], O, R, ?_, by simpa using h, fun v H' O' hr hle => ?_⟩
 ·cases d
  ·exact Ghost.refl _ _
  ·exact ⟨rfl, .inl ⟨rfl, rfl⟩⟩
 ·obtain ⟨vs, h1, h2, h3⟩ := hk v H' O' hr hle
  exact ⟨vs, [], O', h1, h2, trivial, rfl, h3⟩
theorem aZ {O O' : Own} (h : ∀ a [BEq (Nat × Obj)] [LawfulBEq (Nat × Obj)], O.count a = O'.count a) : O.Perm O' := by
 haveI : DecidableEq (Nat × Obj) := fun a b => Classical.propDecidable (a = b)
 exact List.perm_iff_count.2 fun a => h a
def ItsS (H : Heap) (v : Value) (l : List It) : Prop := ∃ rows, Sl H 5 v rows ∧ rows.length = l.length ∧ ∀ (i : Nat) (r : List Value) (x : It), rows[i]? = some r → l[i]? = some x → ∃ s, r = [iV x.player, iV x.id, iV x.card, iV x.trig, s] ∧ Sl H 2 s (x.tgs.map Tg.row)
structure StS (H : Heap) (vl vh vf vg : Value) (s : St) : Prop where
 lib : Sl H 1 vl (aO s.lib)
 hand : Sl H 1 vh (aO s.hand)
 field : Sl H 1 vf (aO s.field)
 grave : Sl H 1 vg (aO s.grave)
structure BdS (H : Heap) (v : d8) (b : Bd) : Prop where
 objs : Sl H 12 v.o (b.objs.map Ob.row)
 s0 : StS H v.l0 v.h0 v.f0 v.g0 b.s0
 s1 : StS H v.l1 v.h1 v.f1 v.g1 b.s1
 stack : ItsS H v.s b.stack
 queue : ItsS H v.q b.queue
 att : Sl H 1 v.a (aO b.att)
 blocks : Sl H 2 v.b (b.blocks.map Bl.row)
theorem ItsS.le {H H' : Heap} {v : Value} {l : List It} (h : ItsS H v l) (hl : Heap.le H H') : ItsS H' v l :=
 let ⟨rows, h1, h2, h3⟩ := h; ⟨rows, h1.le hl, h2, fun i r x a b => let ⟨s, e, k⟩ := h3 i r x a b; ⟨s, e, k.le hl⟩⟩
theorem StS.le {H H' : Heap} {vl vh vf vg : Value} {s : St} (h : StS H vl vh vf vg s) (hl : Heap.le H H') : StS H' vl vh vf vg s := ⟨h.lib.le hl, h.hand.le hl, h.field.le hl, h.grave.le hl⟩
theorem BdS.le {H H' : Heap} {v : d8} {b : Bd} (h : BdS H v b) (hl : Heap.le H H') : BdS H' v b :=
 ⟨h.objs.le hl, h.s0.le hl, h.s1.le hl, h.stack.le hl, h.queue.le hl, h.att.le hl, h.blocks.le hl⟩
theorem ItsS.r {H : Heap} {v : Value} {l : List It} (h : ItsS H v l) (O : Own) : ItsR H O v l :=
 let ⟨rows, h1, h2, h3⟩ := h; ⟨rows, h1.rsl O, h2, fun i r x a b => let ⟨s, e, k⟩ := h3 i r x a b; ⟨s, e, k.rsl O⟩⟩
theorem StS.r {H : Heap} {vl vh vf vg : Value} {s : St} (h : StS H vl vh vf vg s) (O : Own) : StR H O vl vh vf vg s := ⟨h.lib.rsl O, h.hand.rsl O, h.field.rsl O, h.grave.rsl O⟩
theorem BdS.r {H : Heap} {v : d8} {b : Bd} (h : BdS H v b) (O : Own) : BdR H O v b := ⟨h.objs.rsl O, h.s0.r O, h.s1.r O, h.stack.r O, h.queue.r O, h.att.rsl O, h.blocks.rsl O⟩
def OSlE (e : TypeId) (size : Nat) (v : Value) (rows : List (List Value)) (O : Own) : Prop := OSl e size v rows O ∨ ((∃ a c, v = .slice a 0 c ∧ c < 2 ^ 63) ∧ rows = [] ∧ O = [])
theorem OSlE.one {e : TypeId} {size : Nat} {v : Value} {rows : List (List Value)} {O : Own} (h : OSlE e size v rows O) : v.oneCell' = true := by
 rcases h with h | ⟨⟨a, c, rfl, _⟩, _⟩
 ·exact h.one
 ·rfl
theorem OSlE.len {e : TypeId} {size : Nat} {v : Value} {rows : List (List Value)} {O : Own} (h : OSlE e size v rows O) : al .len [v] = some (.int .i64 rows.length) := by
 rcases h with h | ⟨⟨a, c, rfl, _⟩, rfl, _⟩
 ·exact h.len
 ·rfl
theorem OSlE.lenB {e : TypeId} {size : Nat} {v : Value} {rows : List (List Value)} {O : Own} (h : OSlE e size v rows O) : rows.length < 2 ^ 63 := by
 rcases h with h | ⟨_, rfl, _⟩
 ·exact h.lenB
 ·simp
theorem OSlE.rsl {e : TypeId} {size : Nat} {v : Value} {rows : List (List Value)} {O1 O : Own} (h : OSlE e size v rows O1) (hO : ∀ p ∈ O1, p ∈ O) (H : Heap) : RSl H O size v rows := by
 rcases h with h | ⟨⟨a, c, rfl, hc⟩, rfl, _⟩
 ·exact h.rsl hO H
 ·exact Sl.rsl ⟨a, c, rfl, Nat.zero_le _, hc, fun h => absurd rfl h⟩ O
theorem OSlE.idx {e : TypeId} {size : Nat} {v : Value} {rows : List (List Value)} {O1 O : Own} (h : OSlE e size v rows O1) (hO : ∀ p ∈ O1, p ∈ O) (H : Heap) {k : IntKind} {i : Nat} {row : List Value} (hr : rows[i]? = some row) :
  ∃ a, al (.idx size) [v, .int k i] = some (.pointer (some a)) ∧ a.spot = none ∧ Reads H O (.pointer (some a)) size row ∧ ∀ off m, off + m ≤ size → Reads H O (bc (.pointer (some a)) off) m ((row.drop off).take m) := by
 rcases h with h | ⟨_, rfl, _⟩
 ·exact h.idx hO H hr
 ·simp at hr
theorem OSlE.store {e : TypeId} {size : Nat} {v : Value} {rows : List (List Value)} {O1 O2 O : Own} (h : OSlE e size v rows O1) (hO : O.Perm (O1 ++ O2)) {k : IntKind} {i : Nat} {row : List Value} (hr : rows[i]? = some row) :
  ∃ a, al (.idx size) [v, .int k i] = some (.pointer (some a)) ∧ ∀ off ys, off + ys.length ≤ size → Ones ys → ∃ O1', rm O (bc (.pointer (some a)) off) ys (O1' ++ O2) ∧ OSlE e size v (rows.set i (cW row off ys)) O1' := by
 rcases h with h | ⟨_, rfl, _⟩
 ·obtain ⟨a, h1, h2⟩ := h.store hO hr
  exact ⟨a, h1, fun off ys h3 h4 => let ⟨O1', h5, h6⟩ := h2 off ys h3 h4; ⟨O1', h5, .inl h6⟩⟩
 ·simp at hr
theorem OSlE.freeze {e : TypeId} {size : Nat} {v : Value} {rows : List (List Value)} {O1 X : Own} {H : Heap} (h : OSlE e size v rows O1) (hc : Cons H (O1 ++ X)) : ∃ H', Ghost H (O1 ++ X) H' X ∧ Sl H' size v rows ∧ Heap.le H H' := by
 rcases h with h | ⟨⟨a, c, rfl, hb⟩, rfl, rfl⟩
 ·exact h.freeze hc
 ·exact ⟨H, Ghost.refl _ _, ⟨a, c, rfl, Nat.zero_le _, hb, fun h => absurd rfl h⟩, Heap.le_refl H⟩
theorem OSlE.empty {e : TypeId} {size : Nat} {H : Heap} {v : Value} (h : Sl H size v []) : OSlE e size v [] [] := by
 obtain ⟨a, c, rfl, _, hc, _⟩ := h
 exact .inr ⟨⟨a, c, rfl, hc⟩, rfl, rfl⟩
def OIts (te ti : TypeId) (v : Value) (l : List It) (O : Own) : Prop := ∃ rows A Ts, O.Perm (A ++ List.flatten Ts) ∧ OSl ti 5 v rows A ∧ rows.length = l.length ∧ Ts.length = l.length ∧
 ∀ (i : Nat) (r : List Value) (x : It) (T : Own), rows[i]? = some r → l[i]? = some x → Ts[i]? = some T → ∃ s, r = [iV x.player, iV x.id, iV x.card, iV x.trig, s] ∧ OSlE te 2 s (x.tgs.map Tg.row) T
def OItsS (te ti : TypeId) (v : Value) (l : List It) (O : Own) : Prop := ∃ rows A Ts, O.Perm (A ++ List.flatten Ts) ∧ OSl ti 5 v rows A ∧ rows.length = l.length ∧ Ts.length = l.length ∧
 ∀ (i : Nat) (r : List Value) (x : It) (T : Own), rows[i]? = some r → l[i]? = some x → Ts[i]? = some T → ∃ s, r = [iV x.player, iV x.id, iV x.card, iV x.trig, s] ∧ OSl te 2 s (x.tgs.map Tg.row) T
theorem OItsS.weak {te ti : TypeId} {v : Value} {l : List It} {O : Own} (h : OItsS te ti v l O) : OIts te ti v l O := by
 obtain ⟨rows, A, Ts, h1, h2, h3, h4, h5⟩ := h
 refine ⟨rows, A, Ts, h1, h2, h3, h4, fun i r x T a b c => ?_⟩
 obtain ⟨s, e, k⟩ := h5 i r x T a b c
 exact ⟨s, e, .inl k⟩
theorem OItsS.one {te ti : TypeId} {v : Value} {l : List It} {O : Own} (h : OItsS te ti v l O) : v.oneCell' = true := by
 obtain ⟨rows, A, Ts, _, h1, _⟩ := h; exact h1.one
structure Tys where
 (int ob bl it tg : TypeId)
structure OBd (t : Tys) (w : d8) (b : Bd) (Oo A0 B0 C0 D0 A1 B1 C1 D1 Os Oq Oa Obk : Own) : Prop where
 objs : OSl t.ob 12 w.o (b.objs.map Ob.row) Oo
 l0 : OSl t.int 1 w.l0 (aO b.s0.lib) A0
 h0 : OSl t.int 1 w.h0 (aO b.s0.hand) B0
 f0 : OSl t.int 1 w.f0 (aO b.s0.field) C0
 g0 : OSl t.int 1 w.g0 (aO b.s0.grave) D0
 l1 : OSl t.int 1 w.l1 (aO b.s1.lib) A1
 h1 : OSl t.int 1 w.h1 (aO b.s1.hand) B1
 f1 : OSl t.int 1 w.f1 (aO b.s1.field) C1
 g1 : OSl t.int 1 w.g1 (aO b.s1.grave) D1
 stack : OIts t.tg t.it w.s b.stack Os
 queue : OIts t.tg t.it w.q b.queue Oq
 att : OSl t.int 1 w.a (aO b.att) Oa
 blocks : OSl t.bl 2 w.b (b.blocks.map Bl.row) Obk
def OwnB (t : Tys) (w : d8) (b : Bd) (O : Own) : Prop := ∃ Oo A0 B0 C0 D0 A1 B1 C1 D1 Os Oq Oa Obk, O.Perm (Oo ++ (A0 ++ (B0 ++ (C0 ++ (D0 ++ (A1 ++ (B1 ++ (C1 ++ (D1 ++ (Os ++ (Oq ++ (Oa ++ Obk)))))))))))) ∧ OBd t w b Oo A0 B0 C0 D0 A1 B1 C1 D1 Os Oq Oa Obk
def OwnBS (t : Tys) (w : d8) (b : Bd) (O : Own) : Prop := ∃ A R, O.Perm (A ++ R) ∧ OItsS t.tg t.it w.s b.stack A ∧ ∀ v' l' A', OIts t.tg t.it v' l' A' → OwnB t { w with s := v' } { b with stack := l' } (A' ++ R)
theorem OIts.r {te ti : TypeId} {v : Value} {l : List It} {O O' : Own} (h : OIts te ti v l O) (hO : ∀ p ∈ O, p ∈ O') (H : Heap) : ItsR H O' v l := by
 obtain ⟨rows, A, Ts, hp, h1, h2, h3, h4⟩ := h
 refine ⟨rows, h1.rsl (fun p hp' => hO p (hp.mem_iff.2 (by simp [hp']))) H, h2, fun i r x hr hx => ?_⟩
 have hlt : i < Ts.length := by rw [h3]; exact (List.getElem?_eq_some_iff.1 hx).1
 obtain ⟨s, e, k⟩ := h4 i r x Ts[i] hr hx (List.getElem?_eq_getElem hlt)
 exact ⟨s, e, k.rsl (fun p hp' => hO p (hp.mem_iff.2 (List.mem_append_right _ (List.mem_flatten.2 ⟨Ts[i], List.getElem_mem hlt, hp'⟩)))) H⟩
theorem OwnB.r {t : Tys} {w : d8} {b : Bd} {O O' : Own} (h : OwnB t w b O) (hO : ∀ p ∈ O, p ∈ O') (H : Heap) : BdR H O' w b := by
 obtain ⟨Oo, A0, B0, C0, D0, A1, B1, C1, D1, Os, Oq, Oa, Obk, hp, h⟩ := h
 have m : ∀ p, p ∈ Oo ++ (A0 ++ (B0 ++ (C0 ++ (D0 ++ (A1 ++ (B1 ++ (C1 ++ (D1 ++ (Os ++ (Oq ++ (Oa ++ Obk))))))))))) → p ∈ O' := fun p h => hO p (hp.mem_iff.2 h)
 refine ⟨h.objs.rsl (fun p k => m p (by simp [k])) H, ⟨h.l0.rsl (fun p k => m p (by simp [k])) H, h.h0.rsl (fun p k => m p (by simp [k])) H, h.f0.rsl (fun p k => m p (by simp [k])) H, h.g0.rsl (fun p k => m p (by simp [k])) H⟩,
  ⟨h.l1.rsl (fun p k => m p (by simp [k])) H, h.h1.rsl (fun p k => m p (by simp [k])) H, h.f1.rsl (fun p k => m p (by simp [k])) H, h.g1.rsl (fun p k => m p (by simp [k])) H⟩,
  h.stack.r (fun p k => m p (by simp [k])) H, h.queue.r (fun p k => m p (by simp [k])) H, h.att.rsl (fun p k => m p (by simp [k])) H, h.blocks.rsl (fun p k => m p (by simp [k])) H⟩
theorem OwnBS.weak {t : Tys} {w : d8} {b : Bd} {O : Own} (h : OwnBS t w b O) : OwnB t w b O := by
 obtain ⟨A, R, hp, hs, hk⟩ := h
 obtain ⟨Oo, A0, B0, C0, D0, A1, B1, C1, D1, Os, Oq, Oa, Obk, hp', h⟩ := hk w.s b.stack A hs.weak
 exact ⟨Oo, A0, B0, C0, D0, A1, B1, C1, D1, Os, Oq, Oa, Obk, hp.trans hp', h⟩
def Lp (l : List It) : Prop := l.length ≤ 1000000 ∧ ∀ x ∈ l, x.tgs.length ≤ 1000000
def stB (s : St) : Prop := s.lib.length ≤ 1000000 ∧ s.hand.length ≤ 1000000 ∧ s.field.length ≤ 1000000 ∧ s.grave.length ≤ 1000000
def bdB (b : Bd) : Prop := b.objs.length ≤ 1000000 ∧ stB b.s0 ∧ stB b.s1 ∧ Lp b.stack ∧ Lp b.queue ∧ b.att.length ≤ 1000000 ∧ b.blocks.length ≤ 1000000
end Go.Sx
namespace Go.Proofs.YtieaihgbjikggaaGreat
open Go Go.Sx
set_option maxRecDepth 100000
set_option maxHeartbeats 1000000
abbrev IX (n : Nat) (R : Nat → List Value → Heap → Own → Prop) : List Value → Heap → Own → Prop := fun vs H O => ∃ (i : Nat) (xs : List Value), vs = iV i :: xs ∧ i ≤ n ∧ R i xs H O
abbrev MX (n : Nat) : List Value → Heap → Own → Nat := fun vs _ _ => match g vs 0 with | .int _ k => n - k.toNat | _ => 0
theorem zQ {P : Program} {lab key : Nat} {init : List Value} {body : (List Value → Heap → Own → Prop) → List Value → Tree} {H : Heap} {O : Own} {Q : Value → Heap → Own → Prop} (n : Nat) (R : Nat → List Value → Heap → Own → Prop)
  (h0 : R 0 init H O) (step : ∀ i xs H' O', i ≤ n → xs.length = init.length → Ones xs → Heap.le H H' → R i xs H' O' → (body (FJ (IX n R) (MX n) (n - i)) (iV i :: xs)).den P Q H' O') :
  (Tree.loop lab key (iV 0 :: init) body).den P Q H O := by
 refine iy (IX n R) (MX n) ⟨0, init, rfl, Nat.zero_le _, h0⟩ ?_
 rintro vs H' O' hl ho hle ⟨i, xs, rfl, hi, hr⟩
 exact step i xs H' O' hi (by simpa using hl) ho.2 hle hr
theorem sn {P : Program} {lab n i : Nat} {R : Nat → List Value → Heap → Own → Prop} {xs : List Value} {eqs : List (List Value × List Value)} {H : Heap} {O : Own} {Q : Value → Heap → Own → Prop} (he : Eqs eqs) (hi : i < n) (hr : R (i + 1) xs H O) :
  (Tree.cont lab (FJ (IX n R) (MX n) (n - i)) (iV ((i + 1 : Nat) : Int) :: xs) eqs).den P Q H O := by
 refine dV he ⟨i + 1, xs, rfl, hi, hr⟩ ?_
 show n - ((i + 1 : Nat) : Int).toNat < n - i
 simp; omega
theorem Aw {P : Program} {v : Value} {H : Heap} {O : Own} {Q : Value → Heap → Own → Prop} (h : Q v H []) : (Tree.ret v []).den P Q H O := fun _ => ⟨H, [], Ghost.drop _ _, h⟩
theorem Sl.block1 {H : Heap} {r size : Nat} {row : List Value} {T : TypeId} (h : H r = some (.cells row.toArray T (0, 0))) (hl : row.length = size) (ho : Ones row) : Sl H size (.slice (some ⟨r, 0, none⟩) 1 1) [row] := by
 refine ⟨_, _, rfl, Nat.le_refl _, by simp, fun _ => ⟨_, rfl, ?_⟩⟩
 intro i x hx
 cases i with
 | succ i => simp at hx
 | zero =>
  simp at hx
  subst hx
  refine ⟨?_, hl, ho⟩
  rw [cq, Nat.zero_mul, Nat.add_zero, mU h (by omega)]
  simp [← hl]
def zSt (life : Int) (lib : List Int) : St := ⟨life, 0, 0, 0, 0, lib, [], [], [], false, false, false, 0, 0⟩
def zBd : Bd := ⟨[], zSt 0 [], zSt 0 [], [], [], [], [], 0, 0, 0, 0, 0⟩
abbrev Dl : Value := .slice none 0 0
def AK : d8 := ⟨Dl, Dl, Dl, Dl, Dl, Dl, Dl, Dl, Dl, Dl, Dl, Dl, Dl⟩
theorem B2 {P : Program} {gd : Gd} {op : POp} {args : List Value} {k : Value → Tree} {H : Heap} {O : Own} {Q : Value → Heap → Own → Prop} {v : Value} (h : al op args = some v) (h1 : v.oneCell' = true) (hk : (k v).den P Q H O) :
  (Tree.pure gd op args k).den P Q H O := ⟨v, fun _ => h, .inr h1, hk⟩
end Go.Proofs.YtieaihgbjikggaaGreat
namespace Go.Proofs.YtieaihgbjikggaaGreat
open Go Go.Sx
set_option maxRecDepth 100000
set_option maxHeartbeats 1000000
theorem pV {P : Program} {v : Value} {H : Heap} {O X Ox : Own} {Q : Value → Heap → Own → Prop} (hO : O.Perm (X ++ Ox)) (h : Q v H Ox) : (Tree.ret v []).den P Q H O := by
 intro _
 exact ⟨H, Ox, (Ghost.perm hO).trans (Ghost.sub (List.sublist_append_right X Ox)), h⟩
theorem Jj : ∀ w, (zeroValue be).run PP w = .ok (iV 0) w := by
 intro w
 have : (PP.info? be).bind (·.zero) = some (iV 0) := by kernel_rfl
 simp only [Option.bind_eq_some_iff] at this
 obtain ⟨i, hi, hz⟩ := this
 simp [zeroValue, typeInfo, hi, hz]
theorem GC : PP.underlying cz = some (.map be be) := by kernel_rfl
theorem GK : PP.underlying be = some (.int .i64) := by kernel_rfl
theorem zV {m : By} {mv : Value} {Om : Own} (hm : OMap .i64 mv m Om) (r1 : Nat) (id player : Int) (H : Heap) (h1 : ((cj m id).getD (iV 0)).oneCell' = true) :
  Triple PP jM [iV id, iV player, .pointer (some ⟨r1, 0, none⟩)] H ((r1, .cells #[mv] cz (0, 0)) :: Om) fun v _ O' => v = .bool (cj m id).isNone ∧ ∃ Om', O' = (r1, .cells #[mv] cz (0, 0)) :: Om' ∧ OMap .i64 mv (uO m id (iV player)) Om' := by
 refine sR (vs := [iV id, iV player, .pointer (some ⟨r1, 0, none⟩)]) (by kernel_rfl) ⟨rfl, rfl, rfl, trivial⟩ ?_
 simp only [jL]
 have hr : ∀ (H' : Heap) (X : Own), Reads H' ((r1, .cells #[mv] cz (0, 0)) :: X) (.pointer (some ⟨r1, 0, none⟩)) 1 [mv] := fun H' X => .inr ⟨⟨r1, 0, none⟩, #[mv], cz, rfl, rfl, by simp, rfl, rfl⟩
 refine ap (hr _ _) rfl ⟨hm.one, trivial⟩ ?_
 refine sq GC GK Jj hm (fun p hp => List.mem_cons_of_mem _ hp) id h1 ?_
 refine ap (hr _ _) rfl ⟨hm.one, trivial⟩ ?_
 refine kX GC GK hm (O2 := [(r1, .cells #[mv] cz (0, 0))]) List.perm_append_comm id (iV player) ?_
 intro r Om' hm' _
 refine ab _ (az _) ?_
 intro _
 refine ⟨H, (r1, .cells #[mv] cz (0, 0)) :: Om', Ghost.perm (show (Om' ++ [(r1, Obj.cells #[mv] cz (0, 0))]).Perm ([(r1, Obj.cells #[mv] cz (0, 0))] ++ Om') from List.perm_append_comm), ?_, Om', rfl, hm'⟩
 cases cj m id <;> rfl
theorem Hg {t ty : TypeId} {m : By} {mv : Value} {Om O : Own} {H : Heap} {K : List Value → List (List Value) → Heap → Own → Prop} (hm : OMap .i64 mv m Om) (hsub : ∀ p ∈ Om, p ∈ O) (hk : K [iV m.length] [] H O) (ht : (match PP.underlying t with | some (.map _ _) => true | _ => false) = true := by kernel_rfl) :
  il (fun H1 O1 R => dg PP ((PrimOp.bi .len #[t] ty).sem [mv]) H1 O1 R) false [] [] .one K H O := by
 refine Dk (v := iV m.length) ?_ rfl ⟨rfl, trivial⟩ hk
 intro w F hmo
 obtain ⟨r, es, clock, rfl, rfl, he⟩ := hm
 have hrow := (hmo.own (r, .map es clock) (List.mem_append_left _ (hsub _ (by simp)))).1
 have hg : (getObj r).run PP w = .ok (.map es clock) w := by simp [getObj, Sem.run, hrow]
 have hlen : es.size = m.length := by have := congrArg List.length he; simpa using this
 cases hu : PP.underlying t with
 | none => rw [hu] at ht; cases ht
 | some d =>
  cases d with
  | map kt et =>
   have : (Builtin.len_ #[t] ty #[.map (some r)]).run PP w = .ok (iV m.length) w := by
    simp only [Builtin.len_]
    simp [run_underlying hu, hg, hlen, goInt]
   simp only [PrimOp.sem, builtin, Sem.run_bind]
   rw [this]; rfl
  | _ => rw [hu] at ht; cases ht
theorem pX {lab key : Nat} {lv mv n0 : Value} {l : List Int} {pl : Int} {r1 : Nat} {H : Heap} {O Om Ox : Own} {pre : List (Int × Int)} {Q : Value → Heap → Own → Prop} {rest : List Value → Tree}
    {eqs : (List Value → Heap → Own → Prop) → List Value → Value → List Value → List Value → List (List Value) → Value → Value → List (List Value × List Value)}
    (hl : RSl H Ox 1 lv (aO l)) (hn : n0 = iV l.length) (hm : OMap .i64 mv (gJ pre) Om) (hO : O.Perm (Om ++ Ox)) (hnd : (pre.map (·.1)).Nodup)
    (heq : ∀ C a b c d e f g, Eqs (eqs C a b c d e f g))
    (bad : ∀ H', Heap.le H H' → ¬ ((pre ++ l.map fun i => (i, pl)).map (·.1)).Nodup → Q (.bool false) H' Ox)
    (good : ∀ H' O' Om', Heap.le H H' → ((pre ++ l.map fun i => (i, pl)).map (·.1)).Nodup → OMap .i64 mv (gJ (pre ++ l.map fun i => (i, pl))) Om' → O'.Perm (Om' ++ Ox) → (rest [iV l.length, mv]).den PP Q H' O') :
    (Tree.loop lab key [iV 0, mv] fun C l3 =>
      .pure [] (.bin .lss .int) [(g l3 0), n0] fun v4 =>
      .br v4 (
        .pure [] (.idx 1) [lv, (g l3 0)] fun v5 =>
        .load [] v5 1 fun l6 =>
        .call false jM [(g l6 0), iV pl, (.pointer (some ⟨r1, 0, none⟩))] [] [⟨r1, cz, [(g l3 1)]⟩] .one fun l7 c7 =>
        .pure [] .not [(g l7 0)] fun v8 =>
        .br v8 (
          .ret (.bool false) []) (
          .pure [] (.bin .add .int) [(g l3 0), iV 1] fun v9 =>
          .cont lab C [v9, (g (c7.getD 0 []) 0)] (eqs C l3 v5 l6 l7 c7 v8 v9))) (rest l3)).den PP Q H O := by
  subst hn
  refine zQ l.length (fun i xs H' O' => xs = [mv] ∧ Heap.le H H' ∧ ∃ Om', O'.Perm (Om' ++ Ox) ∧ OMap .i64 mv (gJ (pre ++ (l.take i).map fun i => (i, pl))) Om' ∧ ((pre ++ (l.take i).map fun i => (i, pl)).map (·.1)).Nodup)
    ⟨rfl, Heap.le_refl H, Om, hO, by simpa using hm, by simpa using hnd⟩ ?_
  rintro i xs H' O' hi - - - ⟨rfl, hle, Om', hO', hm', hnd'⟩
  refine ab _ (aB _ _) (ak (fun hb => ?_) (fun hb => ?_))
  · have hlt : i < l.length := by simpa using hb
    obtain ⟨a, h1, h2, _, h3, h4⟩ := ((hl.le hle).own (fun p hp => hO'.mem_iff.2 (List.mem_append_right Om' hp))).idx .i64 i [iV l[i]] (by simp [aO, hlt])
    refine ab _ h1 (ap h2 h3 h4 ?_)
    have hone : ((cj (gJ (pre ++ (l.take i).map fun i => (i, pl))) l[i]).getD (iV 0)).oneCell' = true := by
      rw [dp]; cases cn (pre ++ (l.take i).map fun i => (i, pl)) l[i] <;> rfl
    have hc := zV hm' r1 l[i] pl H' hone
    intro _
    refine ⟨H', Om', Ox, _, Ghost.perm hO', hc, ?_⟩
    rintro v H2 O2 ⟨rfl, Om2, rfl, hm2⟩ hle2
    refine ⟨[_], [[mv]], Om2, rfl, ⟨rfl, trivial⟩, ⟨rfl, ⟨hm2.one, trivial⟩, trivial⟩, rfl, ?_⟩
    refine ab _ (az _) (ak (fun hb => ?_) (fun hb => ?_))
    · have hin : l[i] ∈ (pre ++ (l.take i).map fun i => (i, pl)).map (·.1) := by
        rw [dp] at hb
        simp only [Bool.not_eq_true', Option.isNone_map] at hb
        rcases Classical.em (l[i] ∈ (pre ++ (l.take i).map fun i => (i, pl)).map (·.1)) with h | h
        · exact h
        · rw [eV.2 h] at hb; cases hb
      refine pV (List.Perm.refl _) (bad H2 (Heap.le_trans hle hle2) ?_)
      intro hnd2
      have e : pre ++ l.map (fun i => (i, pl)) = (pre ++ (l.take i).map fun i => (i, pl)) ++ ((l[i], pl) :: (l.drop (i + 1)).map fun i => (i, pl)) := by
        rw [List.append_assoc, ← List.map_cons (f := fun i => (i, pl)), ← List.drop_eq_getElem_cons hlt, ← List.map_append, List.take_append_drop]
      rw [e, List.map_append, List.map_cons] at hnd2
      exact (List.nodup_append.1 hnd2).2.2 _ hin _ (List.mem_cons_self) rfl
    · have hnin : l[i] ∉ (pre ++ (l.take i).map fun i => (i, pl)).map (·.1) := by
        rw [dp] at hb
        simp only [Bool.not_eq_false', Option.isNone_map, Option.isNone_iff_eq_none] at hb
        exact eV.1 hb
      have e : pre ++ (l.take (i + 1)).map (fun i => (i, pl)) = (pre ++ (l.take i).map fun i => (i, pl)) ++ [(l[i], pl)] := by
        rw [List.take_add_one, List.getElem?_eq_getElem hlt, List.map_append, List.append_assoc]; rfl
      refine ab _ (ax (by have := hl.lenB; simp [aO] at this; omega)) (sn (heq _ _ _ _ _ _ _ _) hlt ⟨rfl, Heap.le_trans hle hle2, Om2, List.Perm.refl _, ?_, ?_⟩)
      · rw [e, ← Ad hnin]; exact hm2
      · rw [e, List.map_append, List.nodup_append]
        refine ⟨hnd', by simp, ?_⟩
        intro x hx y hy
        simp only [List.map_cons, List.map_nil, List.mem_singleton] at hy
        subst hy
        rintro rfl
        exact hnin hx
  · have hie : i = l.length := by have : ¬ ((i : Int) < (l.length : Int)) := by simpa using hb
                                  omega
    subst hie
    rw [List.take_length] at hm' hnd'
    exact good H' O' Om' hle hnd' hm' hO'

theorem mj (r : Nat) (o : Nat) (H : Heap) (O : Own) : RetO PP tN [.pointer (some ⟨r, o, none⟩)] H O (.agg #[.pointer (some ⟨r, o + 5, none⟩), .pointer (some ⟨r, o + 6, none⟩), .pointer (some ⟨r, o + 7, none⟩), .pointer (some ⟨r, o + 8, none⟩)]) := by
 refine wR (vs := [.pointer (some ⟨r, o, none⟩)]) (by kernel_rfl) ⟨rfl, trivial⟩ ?_
 simp only [ou]
 refine ai fun r0 => aL rfl (aL rfl (aL rfl (aL rfl (aL rfl (aL rfl (aL rfl (aL rfl (ae (ae (ah ⟨?_, rfl⟩))))))))))
 simp only [g, List.getD_eq_getElem?_getD, List.getElem?_cons_zero, Option.getD_some, bc, cq]
theorem IA {H : Heap} {O : Own} {v : d8} {b : Bd} (h : BdR H O v b) : RetO PP rR [.agg (ay v b).toArray] H O (.bool (bm ba b)) := by
 refine vE (vs := ay v b) (by kernel_rfl) (au h) ?_
 simp only [mE]
 have len1 : ∀ {H' : Heap} {O' : Own} {w : Value} {l : List Int}, RSl H' O' 1 w (aO l) → al .len [w] = some (iV l.length) := fun h => by have := h.len; rwa [aO, List.length_map] at this
 have failB : ∀ {l : List (Int × Int)}, (∃ r, aH b = l ++ r) → ¬ (l.map (·.1)).Nodup → (Value.bool false : Value) = .bool (bm ba b) := by
  rintro l ⟨r, hr⟩ hn
  have : ¬ ((aH b).map (·.1)).Nodup := by
   rw [hr, List.map_append]
   exact fun h => hn (List.nodup_append.1 h).1
  simp only [bm, this, decide_false, Bool.false_and]
 refine ai fun r0 => yg (kd := .i64) fun mv O1 hm => ai fun r1 => ae (aj (mj r0 1 H _) rfl ⟨rfl, rfl, rfl, rfl, trivial⟩ fun H1 l1 => ?_)
 refine af (af (af (af (ae (ab _ (len1 h.s0.lib) ?_)))))
 replace h := h.le l1
 refine pX (mv := mv) (pre := []) (Ox := O) h.s0.lib rfl hm (List.Perm.refl _) (by simp) (by intros; simp [Eqs]) (fun H' _ hn => ⟨failB (l := [] ++ b.s0.lib.map fun i => (i, 0)) ⟨_, by simp [aH, bF]; rfl⟩ hn, rfl⟩) ?_
 intro H2 O2 Om2 l2 nd2 hm2 hO2
 replace h := h.le l2
 refine ae (ab _ (len1 h.s0.hand) ?_)
 refine pX (mv := mv) (pre := [] ++ b.s0.lib.map fun i => (i, 0)) (Ox := O) h.s0.hand rfl hm2 hO2 nd2 (by intros; simp [Eqs]) (fun H' _ hn => ⟨failB ⟨_, by simp [aH, bF]; rfl⟩ hn, rfl⟩) ?_
 intro H3 O3 Om3 l3 nd3 hm3 hO3
 replace h := h.le l3
 refine ae (ab _ (len1 h.s0.field) ?_)
 refine pX (mv := mv) (Ox := O) h.s0.field rfl hm3 hO3 nd3 (by intros; simp [Eqs]) (fun H' _ hn => ⟨failB ⟨_, by simp [aH, bF]; rfl⟩ hn, rfl⟩) ?_
 intro H4 O4 Om4 l4 nd4 hm4 hO4
 replace h := h.le l4
 refine ae (ab _ (len1 h.s0.grave) ?_)
 refine pX (mv := mv) (Ox := O) h.s0.grave rfl hm4 hO4 nd4 (by intros; simp [Eqs]) (fun H' _ hn => ⟨failB ⟨_, by simp [aH, bF]; rfl⟩ hn, rfl⟩) ?_
 intro H5 O5 Om5 l5 nd5 hm5 hO5
 replace h := h.le l5
 refine aj (mj r0 15 H5 _) rfl ⟨rfl, rfl, rfl, rfl, trivial⟩ fun H6 l6 => ?_
 replace h := h.le l6
 refine af (af (af (af (ae (ab _ (len1 h.s1.lib) ?_)))))
 refine pX (mv := mv) (Ox := O) h.s1.lib rfl hm5 hO5 nd5 (by intros; simp [Eqs]) (fun H' _ hn => ⟨failB ⟨_, by simp [aH, bF]; rfl⟩ hn, rfl⟩) ?_
 intro H7 O7 Om7 l7 nd7 hm7 hO7
 replace h := h.le l7
 refine ae (ab _ (len1 h.s1.hand) ?_)
 refine pX (mv := mv) (Ox := O) h.s1.hand rfl hm7 hO7 nd7 (by intros; simp [Eqs]) (fun H' _ hn => ⟨failB ⟨_, by simp [aH, bF]; rfl⟩ hn, rfl⟩) ?_
 intro H8 O8 Om8 l8 nd8 hm8 hO8
 replace h := h.le l8
 refine ae (ab _ (len1 h.s1.field) ?_)
 refine pX (mv := mv) (Ox := O) h.s1.field rfl hm8 hO8 nd8 (by intros; simp [Eqs]) (fun H' _ hn => ⟨failB ⟨_, by simp [aH, bF]; rfl⟩ hn, rfl⟩) ?_
 intro H9 O9 Om9 l9 nd9 hm9 hO9
 replace h := h.le l9
 refine ae (ab _ (len1 h.s1.grave) ?_)
 refine pX (mv := mv) (Ox := O) h.s1.grave rfl hm9 hO9 nd9 (by intros; simp [Eqs]) (fun H' _ hn => ⟨failB ⟨_, by simp [aH, bF]; rfl⟩ hn, rfl⟩) ?_
 intro H10 O10 Om10 l10 nd10 hm10 hO10
 replace h := h.le l10
 have hpre : ∃ pre, pre = bF b.s0 0 ++ bF b.s1 1 := ⟨_, rfl⟩
 obtain ⟨pre, hpe⟩ := hpre
 have e10 : ([] ++ b.s0.lib.map (fun i => (i, (0 : Int))) ++ b.s0.hand.map (fun i => (i, 0)) ++ b.s0.field.map (fun i => (i, 0)) ++ b.s0.grave.map (fun i => (i, 0)) ++ b.s1.lib.map (fun i => (i, 1)) ++ b.s1.hand.map (fun i => (i, 1)) ++ b.s1.field.map (fun i => (i, 1)) ++ b.s1.grave.map (fun i => (i, 1))) = pre := by
  rw [hpe]; simp [bF]
 rw [e10] at nd10 hm10
 have hpb : aH b = pre ++ cJ b.stack := by rw [hpe]; simp [aH]
 refine yg (kd := .i64) fun cv Oc0 hc0 => ae (ab _ (ItsR.len h.stack) ?_)
 have stk := h.stack
 obtain ⟨rows, hrs, hrl, hit⟩ := stk
 refine zQ b.stack.length (fun i xs H' O' => xs = [mv] ∧ Heap.le H10 H' ∧ ∃ Om Oc, O'.Perm (Om ++ (Oc ++ O)) ∧ OMap .i64 mv (gJ (pre ++ cJ (b.stack.take i))) Om ∧ OMap .i64 cv (gJ (aU (b.stack.take i))) Oc ∧ ((pre ++ cJ (b.stack.take i)).map (·.1)).Nodup)
  ⟨rfl, Heap.le_refl _, Om10, Oc0, ?_, by simpa [cJ, bz] using hm10, by simpa [aU, bz, gJ] using hc0, by simpa [cJ, bz] using nd10⟩ ?_
 ·exact ((hO10.append_left Oc0).trans (by rw [← List.append_assoc, ← List.append_assoc]; exact List.perm_append_comm.append_right O))
 rintro i xs H11 O11 hi - - - ⟨rfl, l11, Om, Oc, hO, hm, hc, hnd⟩
 refine ab _ (aB _ _) (ak (fun hb => ?_) (fun hb => ?_))
 ·have hlt : i < b.stack.length := by simpa using hb
  have hsub : ∀ p ∈ O, p ∈ O11 := fun p hp => hO.mem_iff.2 (by simp [hp])
  obtain ⟨a, h1, h2, _, h3, h4⟩ := ((hrs.le l11).own hsub).idx .i64 i rows[i] (by simp [hrl, hlt])
  obtain ⟨s, hrow, _⟩ := hit i rows[i] b.stack[i] (by simp [hrl, hlt]) (by simp [hlt])
  rw [hrow] at h2 h3 h4
  have etk : b.stack.take (i + 1) = b.stack.take i ++ [b.stack[i]] := by rw [List.take_add_one, List.getElem?_eq_getElem hlt]; rfl
  refine ab _ h1 (ap h2 h3 h4 (ai fun r2 => ae (ae (ab _ (aB _ _) (ak (fun hb => ?_) (fun hb => ?_))))))
  ·
   have htr : b.stack[i].trig < 0 := by simpa using hb
   have eow : cJ (b.stack.take (i + 1)) = cJ (b.stack.take i) ++ [(b.stack[i].id, b.stack[i].player)] := by
    rw [etk, lM, B9 htr]
   have eca : aU (b.stack.take (i + 1)) = aU (b.stack.take i) ++ [(b.stack[i].id, b.stack[i].card)] := by
    rw [etk, tp, Fs htr]
   have hone : ((cj (gJ (pre ++ cJ (b.stack.take i))) b.stack[i].id).getD (iV 0)).oneCell' = true := by
    rw [dp]; cases cn (pre ++ cJ (b.stack.take i)) b.stack[i].id <;> rfl
   refine ae (ae ?_)
   have hcall := zV hm r1 b.stack[i].id b.stack[i].player H11 hone
   intro _
   refine ⟨H11, Om, Oc ++ O, _, Ghost.perm hO, hcall, ?_⟩
   rintro w H12 O12 ⟨rfl, Om2, rfl, hm2⟩ l12
   refine ⟨[_], [[mv]], Om2, rfl, ⟨rfl, trivial⟩, ⟨rfl, ⟨hm2.one, trivial⟩, trivial⟩, rfl, ?_⟩
   refine ab _ (az _) (ak (fun hb => ?_) (fun hb => ae (ae ?_)))
   ·have hin : b.stack[i].id ∈ (pre ++ cJ (b.stack.take i)).map (·.1) := by
     rw [dp] at hb
     simp only [Bool.not_eq_true', Option.isNone_map] at hb
     rcases Classical.em (b.stack[i].id ∈ (pre ++ cJ (b.stack.take i)).map (·.1)) with h | h
     ·exact h
     ·rw [eV.2 h] at hb; cases hb
    refine pV (X := Om2 ++ Oc) (by rw [List.append_assoc]) ⟨failB (l := pre ++ cJ (b.stack.take (i + 1))) ⟨cJ (b.stack.drop (i + 1)), ?_⟩ ?_, rfl⟩
    ·rw [hpb, List.append_assoc, ← lM, List.take_append_drop]
    ·rw [eow, ← List.append_assoc, List.map_append]
     intro hn
     exact (List.nodup_append.1 hn).2.2 _ hin _ (by simp) rfl
   ·have hnin : b.stack[i].id ∉ (pre ++ cJ (b.stack.take i)).map (·.1) := by
     rw [dp] at hb
     simp only [Bool.not_eq_false', Option.isNone_map, Option.isNone_iff_eq_none] at hb
     exact eV.1 hb
    have hninc : b.stack[i].id ∉ (aU (b.stack.take i)).map (·.1) := by
     intro hin
     refine hnin ?_
     rw [List.map_append]
     refine List.mem_append_right _ ?_
     simpa [aU, cJ] using hin
    refine kX GC GK hc (O2 := Om2 ++ O) ?_ b.stack[i].id (iV b.stack[i].card) ?_
    ·rw [← List.append_assoc, ← List.append_assoc]
     exact List.perm_append_comm.append_right O
    intro w2 Oc2 hc2 _
    refine ab _ (ax (by have := hrs.lenB; omega)) (sn (by simp [Eqs]) hlt ⟨rfl, Heap.le_trans l11 l12, Om2, Oc2, ?_, ?_, ?_, ?_⟩)
    ·rw [← List.append_assoc, ← List.append_assoc]
     exact List.perm_append_comm.append_right O
    ·rw [eow, ← List.append_assoc, ← Ad hnin]; exact hm2
    ·rw [eca, ← Ad hninc]; exact hc2
    ·rw [eow, ← List.append_assoc, List.map_append, List.nodup_append]
     refine ⟨hnd, by simp, ?_⟩
     intro x hx y hy
     simp only [List.map_cons, List.map_nil, List.mem_singleton] at hy
     subst hy
     rintro rfl
     exact hnin hx
  ·have htr : ¬ b.stack[i].trig < 0 := by simpa using hb
   have eow : cJ (b.stack.take (i + 1)) = cJ (b.stack.take i) := by
    rw [etk, lM, zn htr, List.append_nil]
   have eca : aU (b.stack.take (i + 1)) = aU (b.stack.take i) := by
    rw [etk, tp, DI htr, List.append_nil]
   refine ab _ (ax (by have := hrs.lenB; omega)) (sn (by simp [Eqs]) hlt ⟨rfl, l11, Om, Oc, hO, ?_, ?_, ?_⟩)
   ·rw [eow]; exact hm
   ·rw [eca]; exact hc
   ·rw [eow]; exact hnd
 ·have hie : i = b.stack.length := by
   have : ¬ ((i : Int) < (b.stack.length : Int)) := by simpa using hb
   omega
  subst hie
  rw [List.take_length] at hm hc hnd
  rw [← hpb] at hm hnd
  replace h := h.le l11
  have lo := h.objs.len
  rw [List.length_map] at lo
  have hsub : ∀ p ∈ O, p ∈ O11 := fun p hp => hO.mem_iff.2 (by simp [hp])
  have hsubm : ∀ p ∈ Om, p ∈ O11 := fun p hp => hO.mem_iff.2 (by simp [hp])
  have hsubc : ∀ p ∈ Oc, p ∈ O11 := fun p hp => hO.mem_iff.2 (by simp [hp])
  have hpl : bm ba b = (na ba (aH b) (aU b.stack) none b.objs && decide ((aH b).length = b.objs.length)) := by
   simp only [bm, hnd, decide_true, Bool.true_and]
  refine ae (ab _ lo ?_)
  refine aR b.objs.length (fun i H' O' => O' = O11 ∧ Heap.le H11 H' ∧ na ba (aH b) (aU b.stack) none b.objs = na ba (aH b) (aU b.stack) (kL b.objs i) (b.objs.drop i)) ⟨rfl, Heap.le_refl _, by simp [kL]⟩ ?_
  rintro i H12 O12 hi - ⟨rfl, l12, hor⟩
  refine ab _ (aB _ _) (ak (fun hb => ?_) (fun hb => ?_))
  ·have hlt : i < b.objs.length := by simpa using hb
   obtain ⟨a, h1, h2, _, h3, h4⟩ := ((h.objs.le l12).own hsub).idx .i64 i (Ob.row b.objs[i]) (by simp [hlt])
   refine ab _ h1 (ap h2 h3 h4 (ai fun r3 => ae (ae (ae ?_))))
   have hone : ((cj (gJ (aH b)) b.objs[i].id).getD (iV 0)).oneCell' = true := by
    rw [dp]; cases cn (aH b) b.objs[i].id <;> rfl
   have honec : ((cj (gJ (aU b.stack)) b.objs[i].id).getD (iV 0)).oneCell' = true := by
    rw [dp]; cases cn (aU b.stack) b.objs[i].id <;> rfl
   refine sq GC GK Jj hm hsubm _ hone (ae (sq GC GK Jj hc hsubc _ honec (ae ?_)))
   have g1 : (cj (gJ (aH b)) b.objs[i].id).getD (iV 0) = iV ((cn (aH b) b.objs[i].id).getD 0) := by rw [dp]; cases cn (aH b) b.objs[i].id <;> rfl
   have g2 : (cj (gJ (aU b.stack)) b.objs[i].id).getD (iV 0) = iV ((cn (aU b.stack) b.objs[i].id).getD 0) := by rw [dp]; cases cn (aU b.stack) b.objs[i].id <;> rfl
   have g3 : (cj (gJ (aH b)) b.objs[i].id).isSome = !(cn (aH b) b.objs[i].id).isNone := by rw [dp]; cases cn (aH b) b.objs[i].id <;> rfl
   have g4 : (cj (gJ (aU b.stack)) b.objs[i].id).isSome = (cn (aU b.stack) b.objs[i].id).isSome := by rw [dp]; cases cn (aU b.stack) b.objs[i].id <;> rfl
   rw [g1, g2, g3, g4]
   refine aj (yY b.objs[i] H12 O12) rfl ⟨rfl, trivial⟩ fun H13 l13 => ?_
   have l13' := Heap.le_trans l12 l13
   have hp : ∃ (pv : Value) (x : Int), pv.oneCell' = true ∧ (0 < i → al (.idx 12) [v.o, iV ((i : Int) - 1)] = some pv ∧ yV pv = true ∧ Reads H13 O12 pv 1 [iV x]) ∧ ip (kL b.objs i) b.objs[i].id = (decide ((i : Int) > 0) && decide (x ≥ b.objs[i].id)) := by
    rcases Nat.eq_zero_or_pos i with rfl | hpos
    ·exact ⟨iV 0, 0, rfl, fun h => absurd h (Nat.lt_irrefl 0), by simp [kL, ip]⟩
    ·obtain ⟨j, rfl⟩ : ∃ j, i = j + 1 := ⟨i - 1, by omega⟩
     have hj : j < b.objs.length := by omega
     obtain ⟨a, k1, k2, k3, _⟩ := ((h.objs.le l13').own hsub).idx .i64 j (Ob.row b.objs[j]) (by simp [hj])
     refine ⟨.pointer (some a), b.objs[j].id, rfl, fun _ => ⟨?_, rfl, ?_⟩, ?_⟩
     ·have e : ((j + 1 : Nat) : Int) - 1 = (j : Int) := by omega
      rw [e]; exact k1
     ·have := k3 0 1 (by omega)
      have e : bc (.pointer (some a)) 0 = .pointer (some a) := by simp [bc, Addr.add]
      rwa [e] at this
     ·rw [sW hj]
      have : ((j + 1 : Nat) : Int) > 0 := by omega
      simp only [ip, this, decide_true, Bool.true_and]
   obtain ⟨pv, x, hpone, hpv, hprev⟩ := hp
   have hiB : (i : Int) + 1 < 9223372036854775808 := by have := h.objs.lenB; simp at this; omega
   have hsub1 : al (.bin .sub .int) [iV i, iV 1] = some (iV ((i : Int) - 1)) := by
    simp only [al, fe, dP, if_true]
    rw [no (by omega) (by omega)]
   have hon : ∀ {u : Bool}, On [((.bool (decide ((i : Int) > 0)) : Value), true), (.bool u, false)] → 0 < i := fun h => by
    have := h.1
    simp at this
    omega
   refine ab _ (az _) (af (ab _ (cR _ _) ?_))
   repeat (first | refine ae ?_ | refine af ?_ | refine ab _ hsub1 ?_)
   refine ⟨pv, fun ho => (hpv (hon ho)).1, .inr hpone, ?_⟩
   refine ⟨fun ho => (hpv (hon ho)).2.1, ?_⟩
   refine af (af (af (af ?_)))
   refine ⟨[iV x], rfl, ⟨rfl, trivial⟩, fun ho => (hpv (hon ho)).2.2, ?_⟩
   repeat (first | refine ae ?_ | refine af ?_ | refine ai fun _ => ?_ | refine ab _ (aB _ _) ?_ | refine ab _ (cR _ _) ?_ | refine ab _ (ef _ _) ?_ | refine ab _ (dS _ _) ?_ | refine ab _ (aF _ _) ?_ | refine ab _ (aX _ _) ?_ | refine ab _ (bE _ _) ?_ | refine ab _ (aA _ _) ?_ | refine ab _ (az _) ?_ | refine ab _ (su _ _) ?_ | refine ab _ (nQ _ _) ?_)
   have hbad : zq (aH b) (aU b.stack) (kL b.objs i) (ba b.objs[i]) b.objs[i] =
     ((((!ba b.objs[i] || (decide ((i : Int) > 0) && decide (x ≥ b.objs[i].id))) || (cn (aH b) b.objs[i].id).isNone) || ((cn (aH b) b.objs[i].id).getD 0 != b.objs[i].owner)) || ((cn (aU b.stack) b.objs[i].id).isSome && ((cn (aU b.stack) b.objs[i].id).getD 0 != b.objs[i].card))) := by
    unfold zq; rw [hprev]
   have hstep : na ba (aH b) (aU b.stack) (kL b.objs i) (b.objs.drop i) = (!zq (aH b) (aU b.stack) (kL b.objs i) (ba b.objs[i]) b.objs[i] && na ba (aH b) (aU b.stack) (some b.objs[i].id) (b.objs.drop (i + 1))) := by
    rw [List.drop_eq_getElem_cons hlt, na]
   refine ak (fun hb => ?_) (fun hb => ?_)
   ·refine pV (X := Om ++ Oc) (by rw [List.append_assoc]; exact hO) ⟨?_, rfl⟩
    rw [hpl, hor, hstep, hbad]
    simp only [Bool.not_not] at hb
    rw [hb]; rfl
   ·refine ab _ (ax (by omega)) (aK (by simp [Eqs]) hlt ⟨rfl, l13', ?_⟩)
    simp only [Bool.not_not] at hb
    rw [hor, hstep, hbad, hb, sW hlt]; rfl
  ·have hie : i = b.objs.length := by
    have : ¬ ((i : Int) < (b.objs.length : Int)) := by simpa using hb
    omega
   subst hie
   rw [List.drop_length] at hor
   refine ae ?_
   refine Hg hm hsubm (ae (ab _ lo (ab _ (aF _ _) (pV (X := Om ++ Oc) (by rw [List.append_assoc]; exact hO) ⟨?_, rfl⟩))))
   rw [hpl, hor]
   simp only [na, Bool.true_and, gJ, List.length_map]
   congr 1
   rw [Bool.eq_iff_iff]
   simp only [beq_iff_eq, decide_eq_true_eq]
   omega
end Go.Proofs.YtieaihgbjikggaaGreat
namespace Go.Proofs.YtieaihgbjikggaaGreat
open Go Go.Sx
set_option maxRecDepth 100000
set_option maxHeartbeats 1000000
theorem FL : ∀ w, (zeroValue DY).run PP w = .ok (.bool false) w := by
 intro w
 have : (PP.info? DY).bind (·.zero) = some (.bool false) := by kernel_rfl
 simp only [Option.bind_eq_some_iff] at this
 obtain ⟨i, hi, hz⟩ := this
 simp [zeroValue, typeInfo, hi, hz]
theorem Fc : PP.underlying cM = some (.map be DY) := by kernel_rfl
theorem IZ (a : Int) : al .neg [iV a] = some (iV (IntKind.i64.wrap (0 - a))) := rfl
theorem zM {lab1 key1 lab2 key2 : Nat} {fo ft av bv : Value} {own other att : List Int} {bl : List Bl} {H : Heap} {O : Own} {Q : Value → Heap → Own → Prop} {r0 : Nat}
  {eqs1 : List Value → Value → List (List Value × List Value)}
  {eqs2 : List Value → Value → List (List Value × List Value)}
  (ho : RSl H O 1 fo (aO own)) (ht : RSl H O 1 ft (aO other)) (ha : RSl H O 1 av (aO att)) (hb : RSl H O 2 bv (bl.map Bl.row)) (hpo : ∀ x ∈ own, 0 < x) (hpt : ∀ x ∈ other, 0 < x ∧ x ≤ 500)
  (heq1 : ∀ a b, Eqs (eqs1 a b)) (heq2 : ∀ a b, Eqs (eqs2 a b))
  (hQ : ∀ H', Heap.le H H' → Q (.bool (jH own other att bl)) H' O) :
  (Tree.prim (.makeMap cM false) [] [] [] .one fun l1 _ =>
   .chk (.eqN r0 r0) <|
   .pure [] .len [av] fun v2 =>
   .loop lab1 key1 [(.int .i64 0)] fun C23 l3 =>
    .pure [] (.bin .lss .int) [(g l3 0), v2] fun v4 =>
    .br v4 (
     .pure [] (.idx 1) [av, (g l3 0)] fun v5 =>
     .load [] v5 1 fun l6 =>
     .prim (.lookup cM false) [(g l1 0), (g l6 0)] [] [] .one fun l7 _ =>
     .br (g l7 0) (
      .ret (.bool false) []) (
      .call false cg [fo, (g l6 0)] [] [] .one fun l8 _ =>
      .pure [] .not [(g l8 0)] fun v9 =>
      .br v9 (
       .ret (.bool false) []) (
       .prim (.mapUpdate cM) [(g l1 0), (g l6 0), (.bool true)] [] [] .one fun l10 _ =>
       .pure [] (.bin .add .int) [(g l3 0), (.int .i64 1)] fun v11 =>
       .cont lab1 C23 [v11] (eqs1 l1 v2)))) (
     .chk (.eqN r0 r0) <|
     .pure [] .len [bv] fun v12 =>
     .loop lab2 key2 [(.int .i64 0)] fun C29 l13 =>
      .pure [] (.bin .lss .int) [(g l13 0), v12] fun v14 =>
      .br v14 (
       .pure [] (.idx 2) [bv, (g l13 0)] fun v15 =>
       .load [] v15 2 fun l16 =>
       .newbox fun r1 =>
       .chk (.eqN r1 r1) <|
       .chk (.eqN r1 r1) <|
       .prim (.lookup cM false) [(g l1 0), (g l16 1)] [] [] .one fun l17 _ =>
       .pure [] .not [(g l17 0)] fun v18 =>
       .br v18 (
        .ret (.bool false) []) (
        .chk (.eqN r1 r1) <|
        .pure [] .neg [(g l16 0)] fun v19 =>
        .prim (.lookup cM false) [(g l1 0), v19] [] [] .one fun l20 _ =>
        .br (g l20 0) (
         .ret (.bool false) []) (
         .chk (.eqN r0 r0) <|
         .chk (.eqN r1 r1) <|
         .call false cg [av, (g l16 1)] [] [] .one fun l21 _ =>
         .pure [] .not [(g l21 0)] fun v22 =>
         .br v22 (
          .ret (.bool false) []) (
          .chk (.eqN r1 r1) <|
          .call false cg [ft, (g l16 0)] [] [] .one fun l23 _ =>
          .pure [] .not [(g l23 0)] fun v24 =>
          .br v24 (
           .ret (.bool false) []) (
           .chk (.eqN r1 r1) <|
           .chk (.eqN r1 r1) <|
           .pure [] .neg [(g l16 0)] fun v25 =>
           .prim (.mapUpdate cM) [(g l1 0), (g l16 1), (.bool false)] [] [] .one fun l26 _ =>
           .prim (.mapUpdate cM) [(g l1 0), v25, (.bool true)] [] [] .one fun l27 _ =>
           .pure [] (.bin .add .int) [(g l13 0), (.int .i64 1)] fun v28 =>
           .cont lab2 C29 [v28] (eqs2 l1 v12)))))) (
       .ret (.bool true) []))).den PP Q H O := by
 have la := ha.len
 have lb := hb.len
 rw [aO, List.length_map] at la
 rw [List.length_map] at lb
 refine yg (kd := .i64) fun mv Om0 hm0 => ae (ab _ la ?_)
 refine aR att.length (fun i H' O' => Heap.le H H' ∧ ∃ m Om, O'.Perm (Om ++ O) ∧ OMap .i64 mv m Om ∧ (∀ k, (cj m k).getD (.bool false) = .bool (nu (att.take i) [] [] k)) ∧ (att.take i).Nodup ∧ ∀ x ∈ att.take i, x ∈ own)
  ⟨Heap.le_refl H, [], Om0, List.Perm.refl _, hm0, fun k => by simp [cj, nu], by simp, by simp⟩ ?_
 rintro i H1 O1 hi - ⟨l1, m, Om, hO, hm, hs, hnd, hall⟩
 have hsubO : ∀ p ∈ O, p ∈ O1 := fun p hp => hO.mem_iff.2 (List.mem_append_right Om hp)
 have hsubM : ∀ p ∈ Om, p ∈ O1 := fun p hp => hO.mem_iff.2 (List.mem_append_left O hp)
 refine ab _ (aB _ _) (ak (fun hlt => ?_) (fun hge => ?_))
 ·have hlt : i < att.length := by simpa using hlt
  obtain ⟨a, h1, h2, _, h3, h4⟩ := ((ha.le l1).own hsubO).idx .i64 i [iV att[i]] (by simp [aO, hlt])
  refine ab _ h1 (ap h2 h3 h4 ?_)
  refine qw Fc GK FL hm hsubM att[i] (by show ((cj m att[i]).getD (.bool false)).oneCell' = true; rw [hs]; rfl) ?_
  show Tree.den PP Q (.br ((cj m att[i]).getD (.bool false)) _ _) H1 O1
  rw [hs]
  have etk : att.take (i + 1) = att.take i ++ [att[i]] := by rw [List.take_add_one, List.getElem?_eq_getElem hlt]; rfl
  refine ak (fun hin => ?_) (fun hnin => ?_)
  ·refine pV hO ?_
   have : ¬ att.Nodup := by
    intro hn
    have hin : att[i] ∈ att.take i := by simpa [nu] using hin
    have hn2 : (att.take (i + 1)).Nodup := hn.sublist (List.take_sublist _ _)
    rw [etk, List.nodup_append] at hn2
    exact hn2.2.2 _ hin _ (by simp) rfl
   have := hQ H1 l1
   simpa [jH, ‹¬ att.Nodup›] using this
  ·refine aj (gK ((ho.le l1).own hsubO) att[i]) rfl ⟨rfl, trivial⟩ fun H2 l2 => ab _ (az _) (ak (fun hc => ?_) (fun hc => ?_))
   ·refine pV hO ?_
    have hf : (att.all fun x => own.contains x) = false := by
     rw [Bool.eq_false_iff]
     intro hh
     have := List.all_eq_true.1 hh att[i] (List.getElem_mem hlt)
     rw [this] at hc; cases hc
    have := hQ H2 (Heap.le_trans l1 l2)
    simpa only [jH, hf, Bool.false_and, Bool.and_false] using this
   ·refine kX Fc GK hm hO att[i] (.bool true) ?_
    intro w Om2 hm2 _
    refine ab _ (ax (by have := ha.lenB; simp [aO] at this; omega)) (aK (heq1 _ _) hlt ⟨Heap.le_trans l1 l2, _, Om2, List.Perm.refl _, hm2, ?_, ?_, ?_⟩)
    ·intro k
     rw [xB]
     by_cases hk : k = att[i]
     ·rw [if_pos hk, etk]
      have : nu (att.take i ++ [att[i]]) [] [] k = true := by simp only [nu, decide_eq_true_eq, List.mem_append, List.mem_singleton]; exact .inl ⟨.inr hk, by simp⟩
      rw [this]; rfl
     ·rw [if_neg hk, hs, etk]
      congr 1
      simp only [nu, List.mem_append, List.mem_singleton, hk, or_false]
    ·rw [etk, List.nodup_append]
     refine ⟨hnd, by simp, ?_⟩
     intro x hx y hy
     simp only [List.mem_singleton] at hy
     subst hy
     rintro rfl
     simp [nu] at hnin
     exact hnin hx
    ·rw [etk]
     intro x hx
     rcases List.mem_append.1 hx with hx | hx
     ·exact hall x hx
     ·simp only [List.mem_singleton] at hx
      subst hx
      simpa using hc
 ·have hie : i = att.length := by
   have : ¬ ((i : Int) < (att.length : Int)) := by simpa using hge
   omega
  subst hie
  rw [List.take_length] at hs hnd hall
  have hfb : jH own other att bl = uz att other [] [] bl := by
   have : (att.all fun x => own.contains x) = true := by
    rw [List.all_eq_true]
    intro x hx
    simpa using hall x hx
   simp only [jH, hnd, decide_true, this, Bool.true_and]
  refine ae (ab _ lb ?_)
  refine aR bl.length (fun i H' O' => Heap.le H1 H' ∧ ∃ m Om ua ub, O'.Perm (Om ++ O) ∧ OMap .i64 mv m Om ∧ (∀ k, (cj m k).getD (.bool false) = .bool (nu att ua ub k)) ∧ (∀ x ∈ ub, 0 < x) ∧ uz att other [] [] bl = uz att other ua ub (bl.drop i))
   ⟨Heap.le_refl H1, m, Om, [], [], hO, hm, hs, by simp, by simp⟩ ?_
  rintro i H2 O2 hi - ⟨l2, m, Om, ua, ub, hO, hm, hs, hub, hgo⟩
  have l2' := Heap.le_trans l1 l2
  have hsubO : ∀ p ∈ O, p ∈ O2 := fun p hp => hO.mem_iff.2 (List.mem_append_right Om hp)
  have hsubM : ∀ p ∈ Om, p ∈ O2 := fun p hp => hO.mem_iff.2 (List.mem_append_left O hp)
  refine ab _ (aB _ _) (ak (fun hlt => ?_) (fun hge => ?_))
  ·have hlt : i < bl.length := by simpa using hlt
   obtain ⟨a, h1, h2, _, h3, h4⟩ := ((hb.le l2').own hsubO).idx .i64 i (Bl.row bl[i]) (by simp [hlt])
   rw [List.drop_eq_getElem_cons hlt, uz] at hgo
   generalize bl[i] = x at hgo h2 h3 h4
   have hone : ∀ k, ((cj m k).getD (.bool false)).oneCell' = true := fun k => by rw [hs]; rfl
   have fin : ∀ H', Heap.le H H' → ((!ua.contains x.attacker && att.contains x.attacker && (!ub.contains x.blocker && other.contains x.blocker)) = false) → Q (.bool false) H' O := by
    intro H' hl hf
    have := hQ H' hl
    rwa [hfb, hgo, hf, Bool.false_and] at this
   refine ab _ h1 (ap h2 h3 h4 (ai fun r1 => ae (ae ?_)))
   refine qw Fc GK FL hm hsubM x.attacker (hone _) ?_
   show Tree.den PP Q (.pure [] .not [(cj m x.attacker).getD (.bool false)] _) H2 O2
   rw [hs]
   refine ab _ (az _) (ak (fun h1 => pV hO (fin H2 l2' ?_)) (fun h1 => ae (ab _ (IZ _) ?_)))
   ·simp only [Bool.not_eq_true', nu, decide_eq_false_iff_not, not_or, not_and, Decidable.not_not] at h1
    by_cases hin : x.attacker ∈ att
    ·have := h1.1 hin
     simp [this]
    ·simp [hin]
   refine qw Fc GK FL hm hsubM _ (hone _) ?_
   show Tree.den PP Q (.br ((cj m (IntKind.i64.wrap (0 - x.blocker))).getD (.bool false)) _ _) H2 O2
   rw [hs]
   refine ak (fun h2 => pV hO (fin H2 l2' ?_)) (fun h2 => ae (ae ?_))
   ·by_cases hin : x.blocker ∈ other
    ·have hr := hpt _ hin
     rw [no (by omega) (by omega)] at h2
     simp only [nu, decide_eq_true_eq, Int.zero_sub, Int.neg_neg] at h2
     rcases h2 with ⟨h2, _⟩ | h2
     ·have := hpo _ (hall _ h2); omega
     ·simp [h2]
    ·simp [hin]
   refine aj (gK ((ha.le l2').own hsubO) x.attacker) rfl ⟨rfl, trivial⟩ fun H3 l3 => ab _ (az _) (ak (fun h3 => pV hO (fin H3 (Heap.le_trans l2' l3) ?_)) (fun h3 => ae ?_))
   ·simp only [Bool.not_eq_true'] at h3
    rw [h3]; simp
   refine aj (gK ((ht.le (Heap.le_trans l2' l3)).own hsubO) x.blocker) rfl ⟨rfl, trivial⟩ fun H4 l4 => ab _ (az _) (ak (fun h4 => pV hO (fin H4 (Heap.le_trans l2' (Heap.le_trans l3 l4)) ?_)) (fun h4 => ae (ae (ab _ (IZ _) ?_))))
   ·simp only [Bool.not_eq_true'] at h4
    rw [h4]; simp
   simp only [Bool.not_eq_false'] at h1 h3 h4
   have hain : x.attacker ∈ att := by simpa using h3
   have hbin : x.blocker ∈ other := by simpa using h4
   have hr := hpt _ hbin
   have hapos := hpo _ (hall _ hain)
   rw [no (by omega) (by omega)] at h2 ⊢
   rw [Int.zero_sub] at h2 ⊢
   refine kX Fc GK hm hO x.attacker (.bool false) ?_
   intro w Om2 hm2 _
   refine kX Fc GK hm2 (List.Perm.refl _) (-x.blocker) (.bool true) ?_
   intro w Om3 hm3 _
   refine ab _ (ax (by have := hb.lenB; simp at this; omega)) (aK (heq2 _ _) hlt ⟨Heap.le_trans l2 (Heap.le_trans l3 l4), _, Om3, x.attacker :: ua, x.blocker :: ub, List.Perm.refl _, hm3, HO hs hub hapos hr.1, ?_, ?_⟩)
   ·intro y hy
    rcases List.mem_cons.1 hy with rfl | hy
    ·exact hr.1
    ·exact hub y hy
   ·rw [hgo]
    have hua : ua.contains x.attacker = false := by
     simp only [nu, decide_eq_true_eq] at h1
     rcases h1 with ⟨_, h1⟩ | h1
     ·simpa using h1
     ·have := hub _ h1; omega
    have hubn : ub.contains x.blocker = false := by
     simp only [nu, decide_eq_false_iff_not, not_or, Int.neg_neg] at h2
     simpa using h2.2
    rw [hua, h3, hubn, h4]; rfl
  ·have hie : i = bl.length := by
    have : ¬ ((i : Int) < (bl.length : Int)) := by simpa using hge
    omega
   subst hie
   rw [List.drop_length] at hgo
   refine pV hO ?_
   have := hQ H2 l2'
   rwa [hfb, hgo, uz] at this
end Go.Proofs.YtieaihgbjikggaaGreat
