/- Cards with all that their effects say. Generic. -/
import Derived.Test.YtieaihgbjikggaaGreatC8
import Derived.Shelf.GgSortFunc.InsertionK
import Derived.Test.YtieaihgbjikggaaGreatTW
import Derived.Test.YtieaihgbjikggaaGreatC1
import Derived.Test.YtieaihgbjikggaaGreatFw3
namespace Go.Sx
open Go
structure Eff where
 (code target n m colour : Int)
deriving DecidableEq
def Eff.row (e : Eff) : List Value := [iV e.code, iV e.target, iV e.n, iV e.m, iV e.colour]
def efRows (l : List Eff) : List (List Value) := l.map Eff.row
theorem efRows_len (l : List Eff) : (efRows l).length = l.length := by simp [efRows]
theorem efRows_get {l : List Eff} {i : Nat} (h : i < l.length) : (efRows l)[i]? = some l[i].row := by simp [efRows, h]
structure CdX where
 kind : Int
 effs : List Eff
 trs : List (List Eff)
def CdX.base (c : CdX) : Cd := ⟨c.kind, c.effs.map (·.target), c.trs.map List.length⟩
def TrsX (H : Heap) (v : Value) (trs : List (List Eff)) : Prop := ∃ rows, Sl H 2 v rows ∧ rows.length = trs.length ∧ ∀ (i : Nat) (r : List Value) (l : List Eff), rows[i]? = some r → trs[i]? = some l → Sl H 5 (g r 1) (efRows l)
structure CdRX (H : Heap) (r : List Value) (c : CdX) : Prop where
 kind : g r 1 = iV c.kind
 eff : Sl H 5 (g r 11) (efRows c.effs)
 trig : TrsX H (g r 12) c.trs
def CardsX (H : Heap) (v : Value) (cs : List CdX) : Prop := ∃ rows, Sl H 14 v rows ∧ rows.length = cs.length ∧ ∀ (i : Nat) (r : List Value) (c : CdX), rows[i]? = some r → cs[i]? = some c → CdRX H r c
theorem TrsX.le {H H' : Heap} {v : Value} {l : List (List Eff)} (h : TrsX H v l) (hl : Heap.le H H') : TrsX H' v l := let ⟨rows, h1, h2, h3⟩ := h; ⟨rows, h1.le hl, h2, fun i r n a b => (h3 i r n a b).le hl⟩
theorem CdRX.le {H H' : Heap} {r : List Value} {c : CdX} (h : CdRX H r c) (hl : Heap.le H H') : CdRX H' r c := ⟨h.kind, h.eff.le hl, h.trig.le hl⟩
theorem CardsX.le {H H' : Heap} {v : Value} {cs : List CdX} (h : CardsX H v cs) (hl : Heap.le H H') : CardsX H' v cs := let ⟨rows, h1, h2, h3⟩ := h; ⟨rows, h1.le hl, h2, fun i r c a b => (h3 i r c a b).le hl⟩
theorem effs_base {H : Heap} {v : Value} {l : List Eff} (h : Sl H 5 v (efRows l)) : EffsS H v (l.map (·.target)) := by
 refine ⟨_, h, by simp [efRows], fun i r t a b => ?_⟩
 have hi : i < l.length := by
  have := (List.getElem?_eq_some_iff.1 a).1
  simpa [efRows] using this
 rw [efRows_get hi] at a
 rw [List.getElem?_map, List.getElem?_eq_getElem hi] at b
 obtain rfl := Option.some.inj a
 obtain rfl := Option.some.inj b
 rfl
theorem CdRX.base {H : Heap} {r : List Value} {c : CdX} (h : CdRX H r c) : CdR H r c.base := by
 refine ⟨h.kind, effs_base h.eff, ?_⟩
 obtain ⟨rows, h1, h2, h3⟩ := h.trig
 refine ⟨rows, h1, by simp [CdX.base, h2], fun i r n a b => ?_⟩
 have hi : i < c.trs.length := by
  have := (List.getElem?_eq_some_iff.1 a).1
  omega
 simp only [CdX.base] at b
 rw [List.getElem?_map, List.getElem?_eq_getElem hi] at b
 obtain rfl := Option.some.inj b
 exact ⟨_, h3 i r _ a (List.getElem?_eq_getElem hi), efRows_len _⟩
theorem CardsX.base {H : Heap} {v : Value} {cs : List CdX} (h : CardsX H v cs) : CardsS H v (cs.map CdX.base) := by
 obtain ⟨rows, h1, h2, h3⟩ := h
 refine ⟨rows, h1, by simp [h2], fun i r c a b => ?_⟩
 have hi : i < cs.length := by
  have := (List.getElem?_eq_some_iff.1 a).1
  omega
 rw [List.getElem?_map, List.getElem?_eq_getElem hi] at b
 obtain rfl := Option.some.inj b
 exact (h3 i r _ a (List.getElem?_eq_getElem hi)).base
theorem CardsX.one {H : Heap} {v : Value} {cs : List CdX} (h : CardsX H v cs) : v.oneCell' = true := let ⟨_, h1, _⟩ := h; h1.one
theorem CardsX.len {H : Heap} {v : Value} {cs : List CdX} (h : CardsX H v cs) : evalPure .len [v] = some (iV cs.length) := by
 obtain ⟨rows, h1, h2, _⟩ := h
 have := h1.len; rwa [h2] at this
end Go.Sx
namespace Go.Sx
open Go
end Go.Sx
namespace Go.Sx
open Go
def tgs (l : List Int) : List Tg := l.map fun n => ⟨n, 0⟩
def tRows (l : List Tg) : List (List Value) := l.map Tg.row
theorem tRows_len (a : List Tg) : (tRows a).length = a.length := by simp [tRows]
end Go.Sx
namespace Go.Proofs.YtieaihgbjikggaaGreat
open Go Go.Sx Go.ChangeShapes Go.WideShapes Go.ChangeAt Go.RowKit
set_option maxRecDepth 100000
set_option maxHeartbeats 1000000
end Go.Proofs.YtieaihgbjikggaaGreat
namespace Go.Proofs.YtieaihgbjikggaaGreat
open Go Go.Sx
set_option maxRecDepth 100000
set_option maxHeartbeats 1000000
def resetO (o : Ob) (z : Int) : Ob := { o with dmg := 0, pp := 0, pt := 0, cnt := 0, tap := false, doom := false, sick := z == 2 }
def seatOf (b : Bd) (p : Int) : St := if p = 0 then b.s0 else b.s1
def withSeat (b : Bd) (p : Int) (s : St) : Bd := if p = 0 then { b with s0 := s } else { b with s1 := s }
def putZ (s : St) (z id : Int) : St :=
 if z = 0 then { s with lib := s.lib ++ [id] } else if z = 1 then { s with hand := s.hand ++ [id] } else if z = 2 then { s with field := s.field ++ [id] } else if z = 3 then { s with grave := s.grave ++ [id] } else s
def without (l : List Int) (id : Int) : List Int := l.filter fun n => n != id
def outS (s : St) (id : Int) : St := { s with lib := without s.lib id, hand := without s.hand id, field := without s.field id, grave := without s.grave id }
def isOn (id : Int) (x : It) : Bool := decide (x.trig < 0) && x.id == id
def inFight (id : Int) (x : Bl) : Bool := x.blocker == id || x.attacker == id
def outB (b : Bd) (id : Int) : Bd := { b with s0 := outS b.s0 id, s1 := outS b.s1 id, stack := b.stack.filter fun x => !isOn id x, att := without b.att id, blocks := b.blocks.filter fun x => !inFight id x }
def setOb (b : Bd) (k : Nat) (o : Ob) : Bd := { b with objs := b.objs.set k o }
def putB (b : Bd) (p z id : Int) : Bd := withSeat b p (putZ (seatOf b p) z id)
def idsS (s : St) : List Int := s.lib ++ (s.hand ++ (s.field ++ s.grave))
def idsB (b : Bd) : List Int := idsS b.s0 ++ (idsS b.s1 ++ (cardsOn b.stack).map (·.id))
theorem ids_pairs (b : Bd) : (pairsB b).map (·.1) = idsB b := by
 simp [pairsB, pairsS, idsB, idsS, owned, Function.comp_def]
theorem placed_nodup {b : Bd} {val : Ob → Bool} (h : placedB val b = true) : (idsB b).Nodup := by
 simp only [placedB, Bool.and_eq_true, decide_eq_true_eq] at h
 rw [← ids_pairs]; exact h.1
/-- The parts of a board that is valid. -/
theorem valid_parts {b : Bd} (h : validBd b = true) : placedB validO b = true ∧ fightsBd b = true ∧ (b.active = 0 ∨ b.active = 1) ∧ b.stack.all (fun x => fineB x false) = true := by
 simp only [validBd, Bool.and_eq_true, withinB, decide_eq_true_eq, Bool.not_eq_true', List.any_eq_false] at h
 refine ⟨h.2.2.2.2.2.2.2.2.2.1, h.2.2.2.2.2.2.2.2.2.2, by have := h.1; omega, ?_⟩
 rw [List.all_eq_true]
 intro x hx
 have := h.2.2.2.2.2.2.2.1 x hx
 simpa using this
theorem placed_objs {b : Bd} (h : placedB validO b = true) : ordP none b.objs = true ∧ b.objs.all (ok1 (pairsB b) (carded b.stack)) = true ∧ (pairsB b).length = b.objs.length := by
 simp only [placedB, Bool.and_eq_true, decide_eq_true_eq, objsGo_eq] at h
 exact ⟨h.2.1.1, h.2.1.2, h.2.2⟩
theorem idxP_at {α : Type} {p : α → Bool} : ∀ {l : List α} {k : Nat} {x : α} (i : Int), l[k]? = some x → p x = true → (∀ (j : Nat) (y : α), j < k → l[j]? = some y → p y = false) → idxP p l i = i + k
 | [], k, x, i, h, _, _ => by simp at h
 | a :: l, 0, x, i, h, hp, _ => by
  simp at h; subst h
  simp [idxP, hp]
 | a :: l, k + 1, x, i, h, hp, hb => by
  have h0 := hb 0 a (by omega) rfl
  have := idxP_at (i + 1) (l := l) (k := k) (by simpa using h) hp fun j y hj e => hb (j + 1) y (by omega) (by simpa using e)
  simp only [idxP, h0, Bool.false_eq_true, if_false, this]
  omega
theorem idxO_at {b : Bd} (hn : (b.objs.map (·.id)).Nodup) {k : Nat} {o : Ob} (h : b.objs[k]? = some o) : idxO b o.id = k := by
 have := idxP_at (p := fun x : Ob => x.id == o.id) (l := b.objs) 0 h (by simp) fun j y hj e => by
  have hlt := (List.getElem?_eq_some_iff.1 h).1
  have h1 : (b.objs.map (·.id))[j]? = some y.id := by rw [List.getElem?_map, e]; rfl
  have h2 : (b.objs.map (·.id))[k]? = some o.id := by rw [List.getElem?_map, h]; rfl
  have hne : y.id ≠ o.id := by
   intro e2
   rw [e2] at h1
   have := (List.getElem?_inj (by simpa using (by omega : j < b.objs.length)) hn).1 (h1.trans h2.symm)
   omega
  simpa using hne
 rw [idxO, this]; omega
/-- What is known of an object of a valid board. -/
theorem obj_known {b : Bd} (h : placedB validO b = true) {k : Nat} {o : Ob} (hk : b.objs[k]? = some o) : validO o = true ∧ (o.id, o.owner) ∈ pairsB b ∧ idxO b o.id = k ∧ (o.owner = 0 ∨ o.owner = 1) := by
 obtain ⟨h1, h2, _⟩ := placed_objs h
 have hm := List.mem_of_getElem? hk
 have ho := List.all_eq_true.1 h2 o hm
 simp only [ok1, Bool.and_eq_true, beq_iff_eq] at ho
 obtain ⟨v, hl, hown, _⟩ := ho
 have hn := placed_nodup h
 rw [← ids_pairs] at hn
 refine ⟨v, ?_, idxO_at (ordP_spec h1).2 hk, validO_owner v⟩
 cases e : lookI (pairsB b) o.id with
 | none => rw [e] at hl; cases hl
 | some w =>
  rw [e] at hown
  have : w = o.owner := hown
  rw [this] at e
  exact (lookI_some hn).1 e
/-- An id that is somewhere has its object. -/
theorem id_obj {b : Bd} (h : placedB validO b = true) {id p : Int} (hm : (id, p) ∈ pairsB b) : ∃ (k : Nat) (o : Ob), b.objs[k]? = some o ∧ o.id = id ∧ o.owner = p := by
 obtain ⟨o, ho, e, _⟩ := placed_ids h id (List.mem_map_of_mem (f := Prod.fst) hm)
 obtain ⟨k, hk⟩ := List.mem_iff_getElem?.1 ho
 refine ⟨k, o, hk, e, ?_⟩
 obtain ⟨_, h2, _⟩ := obj_known h hk
 have hn := placed_nodup h
 rw [← ids_pairs] at hn
 rw [e] at h2
 have a := (lookI_some hn).2 h2
 have c := (lookI_some hn).2 hm
 rw [a] at c
 exact Option.some.inj c
theorem lookI_perm {l l' : List (Int × Int)} (hn : (l.map (·.1)).Nodup) (hp : l.Perm l') (k : Int) : lookI l k = lookI l' k := by
 have hn' : (l'.map (·.1)).Nodup := (hp.map _).nodup_iff.1 hn
 cases e : lookI l k with
 | none =>
  rw [lookI_none] at e
  symm
  rw [lookI_none]
  intro h
  exact e ((hp.map _).mem_iff.2 h)
 | some v =>
  rw [lookI_some hn] at e
  exact ((lookI_some hn').2 (hp.mem_iff.1 e)).symm
theorem placed_perm {b c : Bd} (h : placedB validO b = true) (hp : (pairsB b).Perm (pairsB c)) (ho : c.objs = b.objs) (hc : carded c.stack = carded b.stack) : placedB validO c = true := by
 obtain ⟨p1, p2, p3⟩ := placed_objs h
 have hn := placed_nodup h
 rw [← ids_pairs] at hn
 simp only [placedB, Bool.and_eq_true, decide_eq_true_eq, objsGo_eq, ho, hc]
 refine ⟨(hp.map _).nodup_iff.1 hn, ⟨p1, ?_⟩, by rw [← hp.length_eq]; exact p3⟩
 have : (b.objs.all (ok1 (pairsB c) (carded b.stack))) = b.objs.all (ok1 (pairsB b) (carded b.stack)) := by
  congr 1
  funext o
  simp only [ok1, lookI_perm hn hp]
 rw [this]; exact p2
end Go.Proofs.YtieaihgbjikggaaGreat
namespace Go.Proofs.YtieaihgbjikggaaGreat
open Go Go.Sx
set_option maxRecDepth 100000
set_option maxHeartbeats 1000000
/-- A call that leaves what is owned as it is, and hands back a value of which S holds. -/
theorem call_givesO {P : Program} {f : FuncId} {args : List Value} {H : Heap} {O : Own} {S : Value → Heap → Prop} {d : Bool} {shp : Shp} {K : List Value → List (List Value) → Heap → Own → Prop}
  (h : Triple P f args H O fun v H' O' => S v H' ∧ O' = O) (hk : ∀ v H', S v H' → Heap.le H H' → ∃ vs, shp.open v = some vs ∧ Ones vs ∧ K vs [] H' O) :
  CallD (fun H1 O1 R => Triple P f args H1 O1 R) d [] [] shp K H O := by
 intro _
 refine ⟨H, O, [], fun v H' O' => S v H' ∧ O' = O, ?_, h, ?_⟩
 ·cases d
  ·show Ghost H O H (O ++ [])
   rw [List.append_nil]; exact Ghost.refl _ _
  ·exact ⟨rfl, .inr ⟨rfl, rfl, rfl, fun v H' O' h => h.2⟩⟩
 ·rintro v H' O' ⟨hs, rfl⟩ hle
  obtain ⟨vs, h1, h2, h3⟩ := hk v H' hs hle
  exact ⟨vs, [], O', h1, h2, trivial, rfl, by rw [List.append_nil]; exact h3⟩
abbrev i64 (n : Int) : Prop := -9223372036854775808 ≤ n ∧ n ≤ 9223372036854775807
theorem ob_ones (o : Ob) : Ones o.row := ⟨rfl, rfl, rfl, rfl, rfl, rfl, rfl, rfl, rfl, rfl, rfl, rfl, trivial⟩
theorem c_index_1 (o : Ob) (id : Int) (H : Heap) (O : Own) : RetO PP F_board_index_1 [.agg o.row.toArray, iV id] H O (iV (IntKind.i64.wrap (o.id - id))) := by
 refine run_board_index_1 (vs := o.row ++ [iV id]) (by kernel_rfl) (ones_app (ob_ones o) ⟨rfl, trivial⟩) ?_
 simp only [T_board_index_1]
 exact newbox_den fun r0 => chkN_den (pure_den _ rfl (ret_denO ⟨rfl, rfl⟩))
theorem wrap_zero {a id : Int} (h : i64 id) (ha : 1 ≤ a) (hb : a ≤ 500) : (IntKind.i64.wrap (a - id) == 0) = (a == id) := by
 rw [Bool.eq_iff_iff]
 simp only [beq_iff_eq, IntKind.wrap, IntKind.bits, IntKind.signed]
 simp
 omega
theorem wrap_small {a id : Int} (ha : 1 ≤ a) (hb : a ≤ 500) (h1 : 1 ≤ id) (h2 : id ≤ 500) : IntKind.i64.wrap (a - id) = a - id := wrap_id (by omega) (by omega)
theorem ord_lt : ∀ {l : List Ob} {prev : Option Int}, ordP prev l = true → ∀ {j k : Nat} {x y : Ob}, j < k → l[j]? = some x → l[k]? = some y → x.id < y.id
 | [], _, _, j, k, x, y, _, h, _ => by simp at h
 | a :: l, prev, h, j, k, x, y, hjk, hx, hy => by
  simp only [ordP, Bool.and_eq_true] at h
  cases k with
  | zero => omega
  | succ k =>
   cases j with
   | zero =>
    simp at hx; subst hx
    have hm : y ∈ l := List.mem_of_getElem? (by simpa using hy)
    exact (ordP_spec h.2).1 y hm _ rfl
   | succ j => exact ord_lt h.2 (j := j) (k := k) (by omega) (by simpa using hx) (by simpa using hy)
theorem add_nat' {i n : Nat} (h : i + n < 2 ^ 63) : evalPure (.bin .add .int) [iV (i : Int), iV (n : Int)] = some (iV ((i + n : Nat) : Int)) := add_nat h
theorem conv_u {n : Nat} (h : n < 2 ^ 63) : evalPure (.conv .u64) [iV (n : Int)] = some (.int .u64 (n : Int)) := by
 simp only [evalPure, IntKind.wrap, IntKind.bits, IntKind.signed]
 simp
 omega
theorem conv_i {n : Nat} (h : n < 2 ^ 63) : evalPure (.conv .i64) [.int .u64 (n : Int)] = some (iV (n : Int)) := by
 simp only [evalPure]
 rw [wrap_id (by omega) (by omega)]
theorem shr_one {n : Nat} (h : n < 2 ^ 63) : evalPure (.bin .shr .int) [.int .u64 (n : Int), .int .u64 1] = some (.int .u64 ((n / 2 : Nat) : Int)) := by
 simp only [evalPure, evalBin, evalShift]
 simp [IntKind.bits]
 rw [Int.fdiv_eq_ediv_of_nonneg]
 all_goals omega
/-- The search: it finds what is there, where the list is in order. -/
theorem c_BinarySearch {H : Heap} {O : Own} {v : Value} {l : List Ob} (h : RSl H O 12 v (l.map Ob.row)) {id : Int} (hid : i64 id) (hv : ∀ o ∈ l, 1 ≤ o.id ∧ o.id ≤ 500) (ho : ordP none l = true) (hlen : l.length ≤ 1000000) :
  Triple PP F_slices_BinarySearchFunc_api_Object_api_Object_int [v, iV id, .func (.func F_board_index_1) #[] #[]] H O fun r _ O' => (∃ (i : Nat) (f : Bool), r = .tuple #[iV i, .bool f] ∧ (f = true → ∃ o, l[i]? = some o ∧ o.id = id) ∧ (f = false → ∀ o ∈ l, o.id ≠ id)) ∧ O' = O := by
 refine run_slices_BinarySearchFunc_api_Object_api_Object_int (vs := [v, iV id, .func (.func F_board_index_1) #[] #[]]) (by kernel_rfl) ⟨h.one, rfl, rfl, trivial⟩ ?_
 simp only [T_slices_BinarySearchFunc_api_Object_api_Object_int]
 have hl := h.len
 have hB := h.lenB
 rw [List.length_map] at hl hB
 refine pure_den _ hl ?_
 refine loop_den (fun vs H' O' => ∃ i j : Nat, vs = [iV i, iV j] ∧ i ≤ j ∧ j ≤ l.length ∧ O' = O ∧ Heap.le H H' ∧ (1 ≤ id → id ≤ 500 → (∀ (k : Nat) (o : Ob), k < i → l[k]? = some o → o.id < id) ∧ ∀ (k : Nat) (o : Ob), j ≤ k → l[k]? = some o → id ≤ o.id))
  (fun vs _ _ => match g vs 0, g vs 1 with | .int _ a, .int _ b => (b - a).toNat | _, _ => 0) ⟨0, l.length, rfl, Nat.zero_le _, Nat.le_refl _, rfl, Heap.le_refl _, fun _ _ => ⟨fun k o hk => absurd hk (Nat.not_lt_zero k), fun k o hk e => by
   have := (List.getElem?_eq_some_iff.1 e).1; omega⟩⟩ ?_
 rintro vs H' O' - - - ⟨i, j, rfl, hij, hj, rfl, hle, hinv⟩
 refine pure_den _ (lss_eq _ _) (br_den (fun hb => ?_) (fun hb => ?_))
 ·have hlt : i < j := by simpa using hb
  have hm : (i + j) / 2 < l.length := by omega
  obtain ⟨a, h1, h2, _, h3, h4⟩ := (h.le hle).idx .i64 ((i + j) / 2) (Ob.row l[(i + j) / 2]) (by simp [hm])
  refine pure_den _ (add_nat' (by omega)) (pure_den _ (conv_u (by omega)) (pure_den _ (shr_one (by omega)) (pure_den _ (conv_i (by omega)) (pure_den _ h1 (load_denR h2 h3 h4 ?_)))))
  refine callv_den rfl (okFn_of okL_ok (by decide)) (c_index_1 l[(i + j) / 2] id H' O') rfl ⟨rfl, trivial⟩ fun H2 l2 => pure_den _ (lss_eq _ _) (br_den (fun hc => ?_) (fun hc => ?_))
  ·refine pure_den _ (add_one (by omega)) (cont_den (by simp [Eqs]) ⟨(i + j) / 2 + 1, j, rfl, by omega, hj, rfl, Heap.le_trans hle l2, fun a1 a2 => ⟨fun k o hk e => ?_, (hinv a1 a2).2⟩⟩ ?_)
   ·have hc := of_decide_eq_true hc
    have hm1 := hv _ (List.getElem_mem hm)
    rw [wrap_small hm1.1 hm1.2 a1 a2] at hc
    rcases Nat.lt_or_ge k ((i + j) / 2) with hk2 | hk2
    ·have := ord_lt ho hk2 e (List.getElem?_eq_getElem hm); omega
    ·have : k = (i + j) / 2 := by omega
     subst this
     rw [List.getElem?_eq_getElem hm] at e
     obtain rfl := Option.some.inj e
     omega
   ·show (((j : Int) - (((i + j) / 2 + 1 : Nat) : Int)).toNat) < ((j : Int) - (i : Int)).toNat
    omega
  ·refine cont_den (by simp [Eqs]) ⟨i, (i + j) / 2, rfl, by omega, by omega, rfl, Heap.le_trans hle l2, fun a1 a2 => ⟨(hinv a1 a2).1, fun k o hk e => ?_⟩⟩ ?_
   ·have hc := of_decide_eq_false hc
    have hm1 := hv _ (List.getElem_mem hm)
    rw [wrap_small hm1.1 hm1.2 a1 a2] at hc
    rcases Nat.lt_or_ge ((i + j) / 2) k with hk2 | hk2
    ·have := ord_lt ho hk2 (List.getElem?_eq_getElem hm) e; omega
    ·have : k = (i + j) / 2 := by omega
     subst this
     rw [List.getElem?_eq_getElem hm] at e
     obtain rfl := Option.some.inj e
     omega
   ·show (((((i + j) / 2 : Nat) : Int) - (i : Int)).toNat) < ((j : Int) - (i : Int)).toNat
    omega
 ·have hie : i = j := by
   have : ¬ ((i : Int) < (j : Int)) := of_decide_eq_false hb
   omega
  subst hie
  refine pure_den _ (lss_eq _ _) (br_den (fun hb => ?_) (fun hb => ?_))
  ·have hlt : i < l.length := by simpa using hb
   obtain ⟨a, h1, h2, _, h3, h4⟩ := (h.le hle).idx .i64 i (Ob.row l[i]) (by simp [hlt])
   have hm1 := hv _ (List.getElem_mem hlt)
   refine pure_den _ h1 (load_denR h2 h3 h4 (callv_den rfl (okFn_of okL_ok (by decide)) (c_index_1 l[i] id H' O') rfl ⟨rfl, trivial⟩ fun H2 l2 => pure_den _ (eql_eq _ _) (ret_denO ⟨⟨i, (IntKind.i64.wrap (l[i].id - id) == 0), rfl, fun hc => ?_, fun hc => ?_⟩, rfl⟩)))
   ·rw [wrap_zero hid hm1.1 hm1.2] at hc
    exact ⟨l[i], List.getElem?_eq_getElem hlt, by simpa using hc⟩
   ·rw [wrap_zero hid hm1.1 hm1.2] at hc
    have hne : l[i].id ≠ id := by simpa using hc
    intro o hmem e
    have hob := hv o hmem
    obtain ⟨i1, i2⟩ := hinv (by omega) (by omega)
    obtain ⟨k, hk⟩ := List.mem_iff_getElem?.1 hmem
    rcases Nat.lt_trichotomy k i with hki | hki | hki
    ·have := i1 k o hki hk; omega
    ·subst hki
     rw [List.getElem?_eq_getElem hlt] at hk
     obtain rfl := Option.some.inj hk
     exact hne e
    ·have := ord_lt ho hki (List.getElem?_eq_getElem hlt) hk
     have := i2 i l[i] (Nat.le_refl _) (List.getElem?_eq_getElem hlt)
     omega
  ·have hge : l.length ≤ i := by simpa using hb
   refine ret_denO ⟨⟨i, false, rfl, fun hc => (by cases hc), fun _ o hmem e => ?_⟩, rfl⟩
   have hob := hv o hmem
   obtain ⟨i1, _⟩ := hinv (by omega) (by omega)
   obtain ⟨k, hk⟩ := List.mem_iff_getElem?.1 hmem
   have := i1 k o (by have := (List.getElem?_eq_some_iff.1 hk).1; omega) hk
   omega
theorem valid_ids {b : Bd} (h : validBd b = true) : (∀ o ∈ b.objs, 1 ≤ o.id ∧ o.id ≤ 500) ∧ ordP none b.objs = true := by
 obtain ⟨p1, p2, _⟩ := placed_objs (valid_parts h).1
 refine ⟨fun o ho => ?_, p1⟩
 have := List.all_eq_true.1 p2 o ho
 simp only [ok1, Bool.and_eq_true] at this
 exact validO_id this.1
theorem valid_len {b : Bd} (h : validBd b = true) : b.objs.length ≤ 1000000 := by
 simp only [validBd, midBad, Bool.and_eq_true, Bool.not_eq_true', Bool.or_eq_false_iff, decide_eq_false_iff_not] at h
 have := h.2.2.2.2.1.1.1.2
 omega
theorem idxO_none {b : Bd} {id : Int} (h : ∀ o ∈ b.objs, o.id ≠ id) : idxO b id = -1 := by
 rcases idxP_spec (fun o : Ob => o.id == id) b.objs 0 (by omega) with ⟨e, _⟩ | ⟨k, o, e1, e2, _⟩
 ·exact e
 ·exact absurd (by simpa using e2) (h o (List.mem_of_getElem? e1))
theorem idxO_some {b : Bd} {id : Int} (h : ¬ idxO b id < 0) : ∃ (k : Nat) (o : Ob), b.objs[k]? = some o ∧ o.id = id ∧ idxO b id = k := by
 rcases idxP_spec (fun o : Ob => o.id == id) b.objs 0 (by omega) with ⟨e, _⟩ | ⟨k, o, e1, e2, e3⟩
 ·exact absurd (show idxO b id < 0 by rw [idxO, e]; omega) h
 ·exact ⟨k, o, e1, by simpa using e2, by rw [idxO, e3]; omega⟩
/-- The index and the error. -/
def indexE (b : Bd) (id : Int) : Int := if validBd b = true then (if idxO b id < 0 then 9 else 0) else 2
def indexI (b : Bd) (id : Int) : Int := if validBd b = true then (if idxO b id < 0 then 0 else idxO b id) else 0
theorem c_index {H : Heap} {O : Own} {v : BV12} {b : Bd} (h : BdR H O v b) {id : Int} (hid : i64 id) : RetO PP F_board_index [.agg (boardC v b).toArray, iV id] H O (.tuple #[iV (indexI b id), iV (indexE b id)]) := by
 refine run_board_index (vs := boardC v b ++ [iV id]) (by kernel_rfl) (ones_app (boardC_ones h) ⟨rfl, trivial⟩) ?_
 simp only [T_board_index]
 refine newbox_den fun r0 => chkN_den (call_retO (c_board_Valid h) rfl ⟨rfl, trivial⟩ fun H1 l1 => pure_den _ (not_eq' _) (br_den (fun hb => ret_denO ⟨?_, rfl⟩) (fun hb => chkN_den ?_)))
 ·have hf : validBd b = false := notT hb
  simp [indexI, indexE, hf]
 have ht : validBd b = true := notF hb
 obtain ⟨hv, ho⟩ := valid_ids ht
 refine call_givesO (c_BinarySearch (h.le l1).objs hid hv ho (valid_len ht)) ?_
 rintro _ H2 ⟨i, f, rfl, f1, f2⟩ l2
 refine ⟨[iV i, .bool f], rfl, ⟨rfl, rfl, trivial⟩, pure_den _ (not_eq' _) (br_den (fun hb => ret_denO ⟨?_, rfl⟩) (fun hb => ret_denO ⟨?_, rfl⟩))⟩
 ·have hf : f = false := notT hb
  have := idxO_none (f2 hf)
  simp [indexI, indexE, ht, this]
 ·have hf : f = true := notF hb
  obtain ⟨o, e1, rfl⟩ := f1 hf
  have := idxO_at (ordP_spec ho).2 e1
  have hn : ¬ ((i : Int) < 0) := by omega
  simp only [indexI, indexE, ht, this, hn, if_true, if_false]
  rfl
end Go.Proofs.YtieaihgbjikggaaGreat
namespace Go.Proofs.YtieaihgbjikggaaGreat
open Go Go.Sx
set_option maxRecDepth 100000
set_option maxHeartbeats 1000000
def zO : Ob := ⟨0, 0, 0, 0, 0, 0, 0, 0, 0, false, false, false⟩
def zIt : It := ⟨0, 0, 0, 0, []⟩
theorem indexE_ok {b : Bd} {id : Int} (h : (indexE b id != 0) = false) : validBd b = true ∧ ∃ (k : Nat) (o : Ob), b.objs[k]? = some o ∧ o.id = id ∧ idxO b id = k ∧ indexI b id = k := by
 unfold indexE at h
 by_cases hv : validBd b = true
 ·rw [if_pos hv] at h
  by_cases hi : idxO b id < 0
  ·rw [if_pos hi] at h; simp at h
  ·obtain ⟨k, o, e1, e2, e3⟩ := idxO_some hi
   exact ⟨hv, k, o, e1, e2, e3, by rw [indexI, if_pos hv, if_neg hi, e3]⟩
 ·rw [if_neg hv] at h; simp at h
/-- The object with an id. -/
def findO (b : Bd) (id : Int) : Ob := if indexE b id != 0 then zO else b.objs.getD (idxO b id).toNat zO
theorem findO_eq {b : Bd} {id : Int} (h : (indexE b id != 0) = false) {k : Nat} {o : Ob} (e : b.objs[k]? = some o) (hi : idxO b id = k) : findO b id = o := by
 simp [findO, h, hi, e]
theorem c_Find {H : Heap} {O : Own} {v : BV12} {b : Bd} (h : BdR H O v b) {id : Int} (hid : i64 id) : RetO PP F_board_Find [.agg (boardC v b).toArray, iV id] H O (.tuple #[.agg (findO b id).row.toArray, iV (indexE b id)]) := by
 refine run_board_Find (vs := boardC v b ++ [iV id]) (by kernel_rfl) (ones_app (boardC_ones h) ⟨rfl, trivial⟩) ?_
 simp only [T_board_Find]
 refine newbox_den fun r0 => newbox_den fun r1 => chkN_den (call_retO (c_index h hid) rfl ⟨rfl, rfl, trivial⟩ fun H1 l1 => pure_den _ (neq_eq _ _) (br_den (fun hb => ?_) (fun hb => ?_)))
 ·repeat (first | refine chkN_den ?_ | refine chkV_den ?_)
  refine ret_denO ⟨?_, rfl⟩
  have e : findO b id = zO := by rw [findO, if_pos hb]
  rw [e]; rfl
 ·obtain ⟨_, k, o, e1, e2, e3, e4⟩ := indexE_ok hb
  obtain ⟨a, h1, h2, _, h3, h4⟩ := ((h.le l1).objs).idx .i64 k (Ob.row o) (by rw [List.getElem?_map, e1]; rfl)
  rw [e4]
  repeat (first | refine chkN_den ?_ | refine chkV_den ?_)
  refine pure_den _ h1 (load_denR h2 h3 h4 ?_)
  repeat (first | refine chkN_den ?_ | refine chkV_den ?_)
  refine ret_denO ⟨?_, rfl⟩
  have hz : indexE b id = 0 := by simpa using hb
  rw [findO_eq hb e1 e3, hz]; rfl
/-- A board's part is stored. -/
theorem OwnB.store_ob {t : Tys} {w : BV12} {b : Bd} {O X O' : Own} (h : OwnB t w b O) (hO : O'.Perm (O ++ X)) {k : Nat} {o : Ob} (hk : b.objs[k]? = some o) (o' : Ob) :
  ∃ a, evalPure (.idx 12) [w.o, iV k] = some (.pointer (some a)) ∧ ∃ O1, OwnStore O' (.pointer (some a)) o'.row O1 ∧ ∃ O2, O1.Perm (O2 ++ X) ∧ OwnB t w (setOb b k o') O2 := by
 obtain ⟨Oo, A0, B0, C0, D0, A1, B1, C1, D1, Os, Oq, Oa, Obk, hp, h⟩ := h
 have hp' : O'.Perm (Oo ++ ((A0 ++ (B0 ++ (C0 ++ (D0 ++ (A1 ++ (B1 ++ (C1 ++ (D1 ++ (Os ++ (Oq ++ (Oa ++ Obk))))))))))) ++ X)) := by
  refine hO.trans ((hp.append_right X).trans (List.Perm.of_eq ?_))
  simp only [List.append_assoc]
 obtain ⟨a, k1, k2⟩ := h.objs.store hp' (k := .i64) (i := k) (row := o.row) (by rw [List.getElem?_map, hk]; rfl)
 obtain ⟨O1', s1, s2⟩ := k2 0 o'.row (by simp [Ob.row]) (ob_ones o')
 rw [ptr0] at s1
 refine ⟨a, k1, _, s1, O1' ++ (A0 ++ (B0 ++ (C0 ++ (D0 ++ (A1 ++ (B1 ++ (C1 ++ (D1 ++ (Os ++ (Oq ++ (Oa ++ Obk))))))))))), List.Perm.of_eq (by simp only [List.append_assoc]), O1', A0, B0, C0, D0, A1, B1, C1, D1, Os, Oq, Oa, Obk, List.Perm.refl _, ?_⟩
 have e : (b.objs.map Ob.row).set k (splice o.row 0 o'.row) = (setOb b k o').objs.map Ob.row := by
  have : splice o.row 0 o'.row = o'.row := by simp [splice, Ob.row]
  rw [this, setOb, List.map_set]
 rw [e] at s2
 exact ⟨s2, h.l0, h.h0, h.f0, h.g0, h.l1, h.h1, h.f1, h.g1, h.stack, h.queue, h.att, h.blocks⟩
theorem OwnB.perm {t : Tys} {w : BV12} {b : Bd} {O O' : Own} (h : OwnB t w b O) (hp : O'.Perm O) : OwnB t w b O' :=
 let ⟨Oo, A0, B0, C0, D0, A1, B1, C1, D1, Os, Oq, Oa, Obk, hq, h⟩ := h
 ⟨Oo, A0, B0, C0, D0, A1, B1, C1, D1, Os, Oq, Oa, Obk, hp.trans hq, h⟩
theorem OwnB.zero (t : Tys) : OwnB t nilV zBd [] :=
 ⟨[], [], [], [], [], [], [], [], [], [], [], [], [], List.Perm.refl _, OSl.nil _ _, OSl.nil _ _, OSl.nil _ _, OSl.nil _ _, OSl.nil _ _, OSl.nil _ _, OSl.nil _ _, OSl.nil _ _, OSl.nil _ _,
  ⟨[], [], [], List.Perm.refl _, OSl.nil _ _, rfl, rfl, fun i r x T h => by simp at h⟩, ⟨[], [], [], List.Perm.refl _, OSl.nil _ _, rfl, rfl, fun i r x T h => by simp at h⟩, OSl.nil _ _, OSl.nil _ _⟩
/-! Where an object is -/
def spotL (id : Int) : List (Int × Int × List Int) → Option (Int × Int × Int)
 | [] => none
 | x :: r => if 0 ≤ idxI x.2.2 id 0 then some (x.1, x.2.1, idxI x.2.2 id 0) else spotL id r
def zonesL (b : Bd) : List (Int × Int × List Int) := [(0, 0, b.s0.lib), (0, 1, b.s0.hand), (0, 2, b.s0.field), (0, 3, b.s0.grave), (1, 0, b.s1.lib), (1, 1, b.s1.hand), (1, 2, b.s1.field), (1, 3, b.s1.grave)]
def spotG (q : It → Bool) (b : Bd) (id : Int) : Option (Int × Int × Int) :=
 match spotL id (zonesL b) with
 | some s => some s
 | none => if 0 ≤ idxP q b.stack 0 then some ((b.stack.getD (idxP q b.stack 0).toNat zIt).player, 4, idxP q b.stack 0) else none
abbrev spotRow (s : Int × Int × Int) : List Value := [iV s.1, iV s.2.1, iV s.2.2]
def spotV (s : Option (Int × Int × Int)) : Int × Int × Int := s.getD (0, 0, 0)
theorem idxI_none : ∀ {l : List Int} {id i : Int}, 0 ≤ i → ¬ (0 ≤ idxI l id i) → id ∉ l
 | [], _, _, _, _ => by simp
 | a :: l, id, i, h, hn => by
  simp only [idxI] at hn
  by_cases he : id = a
  ·subst he; simp at hn; omega
  ·have hb : (id == a) = false := by simpa using he
   rw [if_neg (by rw [hb]; simp)] at hn
   simp only [List.mem_cons, not_or]
   exact ⟨he, idxI_none (by omega) hn⟩
theorem spotL_none {id : Int} : ∀ {l : List (Int × Int × List Int)}, spotL id l = none → ∀ x ∈ l, id ∉ x.2.2
 | [], _, _, h => by simp at h
 | a :: l, h, x, hx => by
  simp only [spotL] at h
  split at h
  ·cases h
  ·rename_i hn
   rcases List.mem_cons.1 hx with rfl | hx
   ·exact idxI_none (by omega) hn
   ·exact spotL_none h x hx
theorem spot_there {b : Bd} (h : validBd b = true) {k : Nat} {o : Ob} (hk : b.objs[k]? = some o) : ∃ s, spotG (isOn o.id) b o.id = some s := by
 obtain ⟨_, hm, _, _⟩ := obj_known (valid_parts h).1 hk
 unfold spotG
 cases e : spotL o.id (zonesL b) with
 | some s => exact ⟨s, rfl⟩
 | none =>
  have hn := spotL_none e
  simp only [zonesL, List.mem_cons, List.not_mem_nil, or_false, forall_eq_or_imp, forall_eq] at hn
  obtain ⟨n1, n2, n3, n4, n5, n6, n7, n8⟩ := hn
  simp only [pairsB, pairsS, List.map_append, List.mem_append, List.mem_map, Prod.mk.injEq] at hm
  have : ∃ x ∈ cardsOn b.stack, x.id = o.id := by
   rcases hm with (⟨a, ha, rfl, _⟩ | ⟨a, ha, rfl, _⟩ | ⟨a, ha, rfl, _⟩ | ⟨a, ha, rfl, _⟩) | (⟨a, ha, rfl, _⟩ | ⟨a, ha, rfl, _⟩ | ⟨a, ha, rfl, _⟩ | ⟨a, ha, rfl, _⟩) | hm
   ·exact absurd ha n1
   ·exact absurd ha n2
   ·exact absurd ha n3
   ·exact absurd ha n4
   ·exact absurd ha n5
   ·exact absurd ha n6
   ·exact absurd ha n7
   ·exact absurd ha n8
   ·simp only [owned, List.mem_map, Prod.mk.injEq] at hm
    obtain ⟨x, hx, e, _⟩ := hm
    exact ⟨x, hx, e⟩
  obtain ⟨x, hx, e⟩ := this
  simp only [cardsOn, List.mem_filter] at hx
  have h0 : 0 ≤ idxP (isOn o.id) b.stack 0 := by
   have := idxP_ge (isOn o.id) b.stack 0 (by omega)
   have hany : b.stack.any (isOn o.id) = true := List.any_eq_true.2 ⟨x, hx.1, by simp only [isOn, hx.2, e, beq_self_eq_true, Bool.and_self]⟩
   rw [hany] at this
   exact of_decide_eq_true this
  exact ⟨_, by rw [if_pos h0]⟩
theorem c_Where_1 {H : Heap} {O : Own} {row : List Value} {x : It} (h : ItR H O row x) {r : Nat} {T : TypeId} {id : Int} (hb : (r, Obj.cells [iV id].toArray T (0, 0)) ∈ O) :
  RetO PP F_board_Where_1 ([.agg row.toArray] ++ (#[.pointer (some ⟨r, 0, none⟩)] : Array Value).toList) H O (.bool (isOn id x)) := by
 obtain ⟨s, rfl, hs⟩ := h
 refine run_board_Where_1 (vs := [iV x.player, iV x.id, iV x.card, iV x.trig, s, .pointer (some ⟨r, 0, none⟩)]) (by kernel_rfl) ⟨rfl, rfl, rfl, rfl, hs.one, rfl, trivial⟩ ?_
 simp only [T_board_Where_1]
 refine newbox_den fun r0 => chkN_den (pure_den _ (lss_eq _ _) ?_)
 repeat (first | refine chkN_den ?_ | refine chkV_den ?_)
 refine ⟨[iV id], rfl, ⟨rfl, trivial⟩, fun _ => .inr ⟨⟨r, 0, none⟩, [iV id].toArray, T, rfl, rfl, hb, rfl, rfl⟩, ?_⟩
 repeat (first | refine chkN_den ?_ | refine chkV_den ?_ | refine newbox_den fun _ => ?_ | refine pure_den _ (lss_eq _ _) ?_ | refine pure_den _ (gtr_eq _ _) ?_ | refine pure_den _ (leq_eq _ _) ?_ | refine pure_den _ (geq_eq _ _) ?_ | refine pure_den _ (eql_eq _ _) ?_ | refine pure_den _ (neq_eq _ _) ?_ | refine pure_den _ (pick_and _ _) ?_ | refine pure_den _ (pick_or _ _) ?_ | refine pure_den _ (not_eq' _) ?_ | refine pure_den _ (beql_eq _ _) ?_ | refine pure_den _ (bneq_eq _ _) ?_)
 exact ret_denO ⟨rfl, rfl⟩
/-- Where an object is, as the program says. -/
def whereP (b : Bd) (id : Int) : Int × Int × Int := if indexE b id != 0 then (0, 0, 0) else spotV (spotG (isOn id) b id)
theorem c_board_Where {H : Heap} {v : BV12} {b : Bd} (h : BdS H v b) {id : Int} (hid : i64 id) (O : Own) : RetO PP F_board_Where [.agg (boardC v b).toArray, iV id] H O (.tuple #[.agg (spotRow (whereP b id)).toArray, iV (indexE b id)]) := by
 refine run_board_Where (vs := boardC v b ++ [iV id]) (by kernel_rfl) (ones_app (boardC_ones (h.r [])) ⟨rfl, trivial⟩) ?_
 simp only [T_board_Where]
 refine newbox_den fun r0 => newbox_den fun r1 => newbox_den fun r2 => ?_
 repeat (first | refine chkN_den ?_ | refine chkV_den ?_)
 refine call_retO (c_index (h.r O) hid) rfl ⟨rfl, rfl, trivial⟩ fun H1 l1 => pure_den _ (neq_eq _ _) (br_den (fun hb => ?_) (fun hb => ?_))
 ·repeat (first | refine chkN_den ?_ | refine chkV_den ?_)
  refine ret_denO ⟨?_, rfl⟩
  have e : whereP b id = (0, 0, 0) := by rw [whereP, if_pos hb]
  rw [e]; rfl
 replace h := h.le l1
 have ew : whereP b id = spotV (spotG (isOn id) b id) := by rw [whereP, if_neg (by rw [hb]; simp)]
 have ez : indexE b id = 0 := by simpa using hb
 obtain ⟨hval, k0, o0, e1, e2, _, _⟩ := indexE_ok hb
 rw [ew, ez]
 clear hb
 refine call_retO (c_lists r0 1 _ _) rfl ⟨rfl, rfl, rfl, rfl, trivial⟩ fun L0 m0 => ?_
 replace h := h.le m0
 repeat (first | refine chkN_den ?_ | refine chkV_den ?_)
 refine call_retO (c_Index_int (h.s0.lib.rsl O) id) rfl ⟨rfl, trivial⟩ fun K0 j0 => pure_den _ (geq_eq _ _) (br_den (fun hb => ?_) (fun n0 => ?_))
 ·repeat (first | refine chkN_den ?_ | refine chkV_den ?_)
  refine ret_denO ⟨?_, rfl⟩
  have e := of_decide_eq_true hb
  have e : 0 ≤ idxI b.s0.lib id 0 := e
  rw [spotG, zonesL]
  simp only [spotL, e, if_true, if_false]
  rfl
 have n0 : ¬ (0 ≤ idxI b.s0.lib id 0) := of_decide_eq_false n0
 replace h := h.le j0
 repeat (first | refine chkN_den ?_ | refine chkV_den ?_)
 refine call_retO (c_Index_int (h.s0.hand.rsl O) id) rfl ⟨rfl, trivial⟩ fun K1 j1 => pure_den _ (geq_eq _ _) (br_den (fun hb => ?_) (fun n1 => ?_))
 ·repeat (first | refine chkN_den ?_ | refine chkV_den ?_)
  refine ret_denO ⟨?_, rfl⟩
  have e := of_decide_eq_true hb
  have e : 0 ≤ idxI b.s0.hand id 0 := e
  rw [spotG, zonesL]
  simp only [spotL, n0, e, if_true, if_false]
  rfl
 have n1 : ¬ (0 ≤ idxI b.s0.hand id 0) := of_decide_eq_false n1
 replace h := h.le j1
 repeat (first | refine chkN_den ?_ | refine chkV_den ?_)
 refine call_retO (c_Index_int (h.s0.field.rsl O) id) rfl ⟨rfl, trivial⟩ fun K2 j2 => pure_den _ (geq_eq _ _) (br_den (fun hb => ?_) (fun n2 => ?_))
 ·repeat (first | refine chkN_den ?_ | refine chkV_den ?_)
  refine ret_denO ⟨?_, rfl⟩
  have e := of_decide_eq_true hb
  have e : 0 ≤ idxI b.s0.field id 0 := e
  rw [spotG, zonesL]
  simp only [spotL, n0, n1, e, if_true, if_false]
  rfl
 have n2 : ¬ (0 ≤ idxI b.s0.field id 0) := of_decide_eq_false n2
 replace h := h.le j2
 repeat (first | refine chkN_den ?_ | refine chkV_den ?_)
 refine call_retO (c_Index_int (h.s0.grave.rsl O) id) rfl ⟨rfl, trivial⟩ fun K3 j3 => pure_den _ (geq_eq _ _) (br_den (fun hb => ?_) (fun n3 => ?_))
 ·repeat (first | refine chkN_den ?_ | refine chkV_den ?_)
  refine ret_denO ⟨?_, rfl⟩
  have e := of_decide_eq_true hb
  have e : 0 ≤ idxI b.s0.grave id 0 := e
  rw [spotG, zonesL]
  simp only [spotL, n0, n1, n2, e, if_true, if_false]
  rfl
 have n3 : ¬ (0 ≤ idxI b.s0.grave id 0) := of_decide_eq_false n3
 replace h := h.le j3
 repeat (first | refine chkN_den ?_ | refine chkV_den ?_)
 refine call_retO (c_lists r0 15 _ _) rfl ⟨rfl, rfl, rfl, rfl, trivial⟩ fun L1 m1 => ?_
 replace h := h.le m1
 repeat (first | refine chkN_den ?_ | refine chkV_den ?_)
 refine call_retO (c_Index_int (h.s1.lib.rsl O) id) rfl ⟨rfl, trivial⟩ fun K4 j4 => pure_den _ (geq_eq _ _) (br_den (fun hb => ?_) (fun n4 => ?_))
 ·repeat (first | refine chkN_den ?_ | refine chkV_den ?_)
  refine ret_denO ⟨?_, rfl⟩
  have e := of_decide_eq_true hb
  have e : 0 ≤ idxI b.s1.lib id 0 := e
  rw [spotG, zonesL]
  simp only [spotL, n0, n1, n2, n3, e, if_true, if_false]
  rfl
 have n4 : ¬ (0 ≤ idxI b.s1.lib id 0) := of_decide_eq_false n4
 replace h := h.le j4
 repeat (first | refine chkN_den ?_ | refine chkV_den ?_)
 refine call_retO (c_Index_int (h.s1.hand.rsl O) id) rfl ⟨rfl, trivial⟩ fun K5 j5 => pure_den _ (geq_eq _ _) (br_den (fun hb => ?_) (fun n5 => ?_))
 ·repeat (first | refine chkN_den ?_ | refine chkV_den ?_)
  refine ret_denO ⟨?_, rfl⟩
  have e := of_decide_eq_true hb
  have e : 0 ≤ idxI b.s1.hand id 0 := e
  rw [spotG, zonesL]
  simp only [spotL, n0, n1, n2, n3, n4, e, if_true, if_false]
  rfl
 have n5 : ¬ (0 ≤ idxI b.s1.hand id 0) := of_decide_eq_false n5
 replace h := h.le j5
 repeat (first | refine chkN_den ?_ | refine chkV_den ?_)
 refine call_retO (c_Index_int (h.s1.field.rsl O) id) rfl ⟨rfl, trivial⟩ fun K6 j6 => pure_den _ (geq_eq _ _) (br_den (fun hb => ?_) (fun n6 => ?_))
 ·repeat (first | refine chkN_den ?_ | refine chkV_den ?_)
  refine ret_denO ⟨?_, rfl⟩
  have e := of_decide_eq_true hb
  have e : 0 ≤ idxI b.s1.field id 0 := e
  rw [spotG, zonesL]
  simp only [spotL, n0, n1, n2, n3, n4, n5, e, if_true, if_false]
  rfl
 have n6 : ¬ (0 ≤ idxI b.s1.field id 0) := of_decide_eq_false n6
 replace h := h.le j6
 repeat (first | refine chkN_den ?_ | refine chkV_den ?_)
 refine call_retO (c_Index_int (h.s1.grave.rsl O) id) rfl ⟨rfl, trivial⟩ fun K7 j7 => pure_den _ (geq_eq _ _) (br_den (fun hb => ?_) (fun n7 => ?_))
 ·repeat (first | refine chkN_den ?_ | refine chkV_den ?_)
  refine ret_denO ⟨?_, rfl⟩
  have e := of_decide_eq_true hb
  have e : 0 ≤ idxI b.s1.grave id 0 := e
  rw [spotG, zonesL]
  simp only [spotL, n0, n1, n2, n3, n4, n5, n6, e, if_true, if_false]
  rfl
 have n7 : ¬ (0 ≤ idxI b.s1.grave id 0) := of_decide_eq_false n7
 replace h := h.le j7
 repeat (first | refine chkN_den ?_ | refine chkV_den ?_)
 have hL : spotL id (zonesL b) = none := by
  rw [zonesL]
  simp only [spotL, n0, n1, n2, n3, n4, n5, n6, n7, if_false]
 have hG : spotG (isOn id) b id = if 0 ≤ idxP (isOn id) b.stack 0 then some ((b.stack.getD (idxP (isOn id) b.stack 0).toNat zIt).player, 4, idxP (isOn id) b.stack 0) else none := by
  rw [spotG, hL]
 obtain ⟨s, hs⟩ := spot_there hval e1
 rw [e2] at hs
 have h0 : 0 ≤ idxP (isOn id) b.stack 0 := by
  rw [hG] at hs
  split at hs
  ·assumption
  ·cases hs
 rw [if_pos h0] at hG
 rw [hG]
 rcases idxP_spec (isOn id) b.stack 0 (by omega) with ⟨e, _⟩ | ⟨k, x, e3, e4, e5⟩
 ·omega
 have e5 : idxP (isOn id) b.stack 0 = (k : Int) := by omega
 refine call_own (own := [⟨r1, 3, [iV id]⟩]) (c_IndexFunc_Item (p := isOn id) (h.stack.r _) rfl (okFn_of okL_ok (by decide)) fun H' _ row x hx => c_Where_1 hx (r := r1) (T := 3) (by simp [BV.obj])) rfl ⟨rfl, trivial⟩ ⟨rfl, ⟨rfl, trivial⟩, trivial⟩ fun H9 l9 => ?_
 replace h := h.le l9
 repeat (first | refine chkN_den ?_ | refine chkV_den ?_)
 obtain ⟨rows, hr, hrl, hit⟩ := (h.stack.r O)
 have hklt : k < b.stack.length := (List.getElem?_eq_some_iff.1 e3).1
 have hrk : rows[k]? = some rows[k] := List.getElem?_eq_getElem (by omega)
 obtain ⟨sv, hrow, _⟩ := hit k rows[k] x hrk e3
 obtain ⟨a, h1, _, h3, _⟩ := hr.idx .i64 k rows[k] hrk
 have hr0 := h3 0 1 (by omega)
 rw [hrow, ptr0] at hr0
 rw [e5]
 refine pure_den _ h1 (chkP_den rfl (load_denR hr0 rfl ⟨rfl, trivial⟩ ?_))
 repeat (first | refine chkN_den ?_ | refine chkV_den ?_)
 refine ret_denO ⟨?_, rfl⟩
 simp only [spotV, Option.getD_some, Int.toNat_natCast, List.getD_eq_getElem?_getD, e3]
 rfl
def onR (id : Int) (x : It) : Bool := (x.trig == -1) && x.id == id
end Go.Proofs.YtieaihgbjikggaaGreat
namespace Go.Proofs.YtieaihgbjikggaaGreat
open Go Go.Sx
set_option maxRecDepth 100000
set_option maxHeartbeats 1000000
theorem OwnB.pick_h0 {t : Tys} {w : BV12} {b : Bd} {O : Own} (h : OwnB t w b O) : ∃ A R, O.Perm (A ++ R) ∧ OSl t.int 1 w.h0 (ints b.s0.hand) A ∧ ∀ v' l' A', OSl t.int 1 v' (ints l') A' → OwnB t { w with h0 := v' } { b with s0 := { b.s0 with hand := l' } } (A' ++ R) := by
 obtain ⟨Oo, A0, B0, C0, D0, A1, B1, C1, D1, Os, Oq, Oa, Obk, hp, h⟩ := h
 refine ⟨B0, Oo ++ (A0 ++ (C0 ++ (D0 ++ (A1 ++ (B1 ++ (C1 ++ (D1 ++ (Os ++ (Oq ++ (Oa ++ (Obk))))))))))), hp.trans (perm_count fun a _ _ => by simp only [List.count_append] <;> omega), h.h0, fun v' l' A' h' => ⟨Oo, A0, A', C0, D0, A1, B1, C1, D1, Os, Oq, Oa, Obk, perm_count fun a _ _ => by simp only [List.count_append] <;> omega, ⟨h.objs, h.l0, h', h.f0, h.g0, h.l1, h.h1, h.f1, h.g1, h.stack, h.queue, h.att, h.blocks⟩⟩⟩
theorem OwnB.pick_h1 {t : Tys} {w : BV12} {b : Bd} {O : Own} (h : OwnB t w b O) : ∃ A R, O.Perm (A ++ R) ∧ OSl t.int 1 w.h1 (ints b.s1.hand) A ∧ ∀ v' l' A', OSl t.int 1 v' (ints l') A' → OwnB t { w with h1 := v' } { b with s1 := { b.s1 with hand := l' } } (A' ++ R) := by
 obtain ⟨Oo, A0, B0, C0, D0, A1, B1, C1, D1, Os, Oq, Oa, Obk, hp, h⟩ := h
 refine ⟨B1, Oo ++ (A0 ++ (B0 ++ (C0 ++ (D0 ++ (A1 ++ (C1 ++ (D1 ++ (Os ++ (Oq ++ (Oa ++ (Obk))))))))))), hp.trans (perm_count fun a _ _ => by simp only [List.count_append] <;> omega), h.h1, fun v' l' A' h' => ⟨Oo, A0, B0, C0, D0, A1, A', C1, D1, Os, Oq, Oa, Obk, perm_count fun a _ _ => by simp only [List.count_append] <;> omega, ⟨h.objs, h.l0, h.h0, h.f0, h.g0, h.l1, h', h.f1, h.g1, h.stack, h.queue, h.att, h.blocks⟩⟩⟩
theorem OwnB.pick_stack {t : Tys} {w : BV12} {b : Bd} {O : Own} (h : OwnB t w b O) : ∃ A R, O.Perm (A ++ R) ∧ OIts t.tg t.it w.s b.stack A ∧ ∀ v' l' A', OIts t.tg t.it v' l' A' → OwnB t { w with s := v' } { b with stack := l' } (A' ++ R) := by
 obtain ⟨Oo, A0, B0, C0, D0, A1, B1, C1, D1, Os, Oq, Oa, Obk, hp, h⟩ := h
 refine ⟨Os, Oo ++ (A0 ++ (B0 ++ (C0 ++ (D0 ++ (A1 ++ (B1 ++ (C1 ++ (D1 ++ (Oq ++ (Oa ++ (Obk))))))))))), hp.trans (perm_count fun a _ _ => by simp only [List.count_append] <;> omega), h.stack, fun v' l' A' h' => ⟨Oo, A0, B0, C0, D0, A1, B1, C1, D1, A', Oq, Oa, Obk, perm_count fun a _ _ => by simp only [List.count_append] <;> omega, ⟨h.objs, h.l0, h.h0, h.f0, h.g0, h.l1, h.h1, h.f1, h.g1, h', h.queue, h.att, h.blocks⟩⟩⟩
theorem zero_int : ∀ w, (zeroValue Ty_int).run PP w = .ok (iV 0) w := by
 intro w
 have : (PP.info? Ty_int).bind (·.zero) = some (iV 0) := by kernel_rfl
 simp only [Option.bind_eq_some_iff] at this
 obtain ⟨i, hi, hz⟩ := this
 simp [zeroValue, typeInfo, hi, hz]
end Go.Proofs.YtieaihgbjikggaaGreat
namespace Go.Proofs.YtieaihgbjikggaaGreat
open Go Go.Sx
set_option maxRecDepth 100000
set_option maxHeartbeats 1000000
end Go.Proofs.YtieaihgbjikggaaGreat
namespace Go.Proofs.YtieaihgbjikggaaGreat
open Go Go.Sx
set_option maxRecDepth 100000
set_option maxHeartbeats 1000000
def restO (o : Ob) : Ob := { o with dmg := 0, pp := 0, pt := 0 }
theorem c_Rest (o : Ob) (H : Heap) (O : Own) : RetO PP F_object_Rest [.agg o.row.toArray] H O (.agg (restO o).row.toArray) := by
 refine run_object_Rest (vs := o.row) (by kernel_rfl) (ob_ones o) ?_
 simp only [T_object_Rest]
 refine newbox_den fun r0 => newbox_den fun r1 => ?_
 repeat (first | refine chkN_den ?_ | refine chkV_den ?_)
 exact ret_denO ⟨rfl, rfl⟩
theorem c_Reset (o : Ob) (z : Int) (H : Heap) (O : Own) : RetO PP F_object_Reset [.agg o.row.toArray, iV z] H O (.agg (resetO o z).row.toArray) := by
 refine run_object_Reset (vs := o.row ++ [iV z]) (by kernel_rfl) (ones_app (ob_ones o) ⟨rfl, trivial⟩) ?_
 simp only [T_object_Reset]
 refine newbox_den fun r0 => newbox_den fun r1 => ?_
 repeat (first | refine chkN_den ?_ | refine chkV_den ?_)
 refine call_retO (c_Rest o H O) rfl (vs := (restO o).row) (ob_ones _) fun H1 l1 => newbox_den fun r2 => ?_
 repeat (first | refine chkN_den ?_ | refine chkV_den ?_)
 refine pure_den _ (eql_eq _ _) ?_
 repeat (first | refine chkN_den ?_ | refine chkV_den ?_)
 exact ret_denO ⟨rfl, rfl⟩
theorem outB_B {b : Bd} (h : bdB b) (id : Int) : bdB (outB b id) := by
 obtain ⟨b1, ⟨b2, b3, b4, b5⟩, ⟨b6, b7, b8, b9⟩, ⟨b10, b10'⟩, b11, b12, b13⟩ := h
 have hw : ∀ {l : List Int}, l.length ≤ 1000000 → (without l id).length ≤ 1000000 := fun h => Nat.le_trans (List.length_filter_le _ _) h
 exact ⟨b1, ⟨hw b2, hw b3, hw b4, hw b5⟩, ⟨hw b6, hw b7, hw b8, hw b9⟩, ⟨Nat.le_trans (List.length_filter_le _ _) b10, fun x hx => b10' x (List.mem_filter.1 hx).1⟩, b11, hw b12, Nat.le_trans (List.length_filter_le _ _) b13⟩
theorem eraseIdx_map {α β : Type} (f : α → β) : ∀ (l : List α) (k : Nat), (l.map f).eraseIdx k = (l.eraseIdx k).map f
 | [], _ => rfl
 | _ :: _, 0 => rfl
 | a :: l, k + 1 => by simp [eraseIdx_map f l k]
end Go.Proofs.YtieaihgbjikggaaGreat
namespace Go.Proofs.YtieaihgbjikggaaGreat
open Go Go.Sx
set_option maxRecDepth 100000
set_option maxHeartbeats 1000000
end Go.Proofs.YtieaihgbjikggaaGreat
namespace Go.Sx
open Go
abbrev Mem := List (Nat × Option Bx)
abbrev Dec (α : Type) := List At → Option (List Ck × α)
def dI : At → Option Int
 | .k (.int .i64 n) => some n
 | _ => none
def dB : At → Option Bool
 | .k (.bool b) => some b
 | _ => none
theorem dI_eq {a : At} {n : Int} (h : dI a = some n) : a = .k (iV n) := by
 unfold dI at h
 split at h
 ·cases h; rfl
 ·cases h
theorem dB_eq {a : At} {n : Bool} (h : dB a = some n) : a = .k (.bool n) := by
 unfold dB at h
 split at h
 ·cases h; rfl
 ·cases h
def rowsD {α : Type} (size : Nat) (dec : Dec α) : Nat → List At → Option (List Ck × List α)
 | 0, _ => some ([], [])
 | n + 1, cs =>
  match dec (cs.take size) with
  | none => none
  | some (k, a) => match rowsD size dec n (cs.drop size) with
   | none => none
   | some (k', l) => some (k ++ k', a :: l)
def slD {α : Type} (mem : Mem) (size : Nat) (dec : Dec α) : At → Option (List Ck × List α)
 | .k (.slice none 0 0) => some ([], [])
 | .sl n r off len _ =>
  match lookB mem n with
  | some (some b) => if (Nat.ble (off + len * size) b.cs.length && Nat.blt len 4611686018427387904) = true then
    match rowsD size dec len (b.cs.drop off) with
    | some (k, l) => some (.eqN r b.r :: k, l)
    | none => none
   else none
  | _ => none
 | _ => none
def DecOk {α : Type} (size : Nat) (dec : Dec α) (Rl : List Value → α → Prop) : Prop :=
 ∀ cs k a, dec cs = some (k, a) → AllCk k → cs.length = size ∧ cs.all At.known = true ∧ Rl (cs.map At.den) a ∧ Ones (cs.map At.den)
theorem rowsD_ok {α : Type} {size : Nat} {dec : Dec α} {Rl : List Value → α → Prop} (hd : DecOk size dec Rl) : ∀ {n : Nat} {cs : List At} {vs : List Value} {k : List Ck} {l : List α}, rowsD size dec n cs = some (k, l) → AllCk k → CellsRel cs vs →
  l.length = n ∧ ∀ (i : Nat) (a : α), l[i]? = some a → Rl ((vs.drop (i * size)).take size) a ∧ Ones ((vs.drop (i * size)).take size) ∧ ((vs.drop (i * size)).take size).length = size
 | 0, cs, vs, k, l, h, _, _ => by
  simp only [rowsD, Option.some.injEq, Prod.mk.injEq] at h
  obtain ⟨_, rfl⟩ := h
  exact ⟨rfl, fun i a h => by simp at h⟩
 | n + 1, cs, vs, k, l, h, hk, hr => by
  simp only [rowsD] at h
  split at h
  ·cases h
  ·rename_i k1 a h1
   split at h
   ·cases h
   ·rename_i k2 l' h2
    simp only [Option.some.injEq, Prod.mk.injEq] at h
    obtain ⟨rfl, rfl⟩ := h
    rw [AllCk.append] at hk
    obtain ⟨d1, d2, d3, d4⟩ := hd _ _ _ h1 hk.1
    have e : vs.take size = (cs.take size).map At.den := (hr.take size).known d2
    obtain ⟨i1, i2⟩ := rowsD_ok hd h2 hk.2 (hr.drop size)
    refine ⟨by simp [i1], fun i a' hi => ?_⟩
    cases i with
    | zero =>
     simp only [List.getElem?_cons_zero, Option.some.injEq] at hi
     subst hi
     rw [Nat.zero_mul, List.drop_zero, e]
     exact ⟨d3, d4, by rw [List.length_map, d1]⟩
    | succ i =>
     have := i2 i a' (by simpa using hi)
     rw [List.drop_drop] at this
     rw [show (i + 1) * size = size + i * size by rw [Nat.add_mul]; omega]
     exact this
theorem slD_ok {α : Type} {mem : Mem} {size : Nat} {dec : Dec α} {Rl : List Value → α → Prop} (hd : DecOk size dec Rl) {x : At} {k : List Ck} {l : List α} (h : slD mem size dec x = some (k, l)) (hk : AllCk k) {L : Own} (hB : Boxes (fun n => (lookB mem n).getD none) L) (H : Heap) :
  x.known = true ∧ ∃ rows, RSl H L size x.den rows ∧ rows.length = l.length ∧ ∀ (i : Nat) (r : List Value) (a : α), rows[i]? = some r → l[i]? = some a → Rl r a := by
 unfold slD at h
 split at h
 ·simp only [Option.some.injEq, Prod.mk.injEq] at h
  obtain ⟨_, rfl⟩ := h
  exact ⟨rfl, [], (Sl.nil H size).rsl L, rfl, fun i r a h => by simp at h⟩
 ·rename_i n r off len cap
  split at h
  ·rename_i b hb
   split at h
   ·rename_i hc
    split at h
    ·rename_i k' l' hrow
     simp only [Option.some.injEq, Prod.mk.injEq] at h
     obtain ⟨rfl, rfl⟩ := h
     obtain ⟨hr, hk'⟩ := hk
     have hr : r = b.r := hr
     subst hr
     rw [Bool.and_eq_true] at hc
     have hfit : off + len * size ≤ b.cs.length := Nat.le_of_ble_eq_true hc.1
     have hlen : len < 4611686018427387904 := Nat.le_of_ble_eq_true hc.2
     obtain ⟨vs, L', hrel, hp, _⟩ := hB.take (n := n) (b := b) (by simp [hb])
     have hvl := hrel.length
     obtain ⟨l1, l2⟩ := rowsD_ok hd hrow hk' (hrel.drop off)
     refine ⟨rfl, (List.range len).map fun i => ((vs.drop off).drop (i * size)).take size, ⟨rfl, ?_, ?_, ?_⟩, by simp [l1], ?_⟩
     ·simp [At.den, evalPure, goInt]
     ·simp; omega
     ·intro kd i row hi
      have hlt : i < len := by
       have := (List.getElem?_eq_some_iff.1 hi).1
       simpa using this
      have hrowi : ((vs.drop off).drop (i * size)).take size = row := by
       rw [List.getElem?_map, List.getElem?_range hlt] at hi
       simpa using hi
      have hli : l'[i]? = some l'[i] := List.getElem?_eq_getElem (by omega)
      obtain ⟨q1, q2, q3⟩ := l2 i _ hli
      rw [hrowi] at q1 q2 q3
      have hmem : (b.r, Obj.cells vs.toArray b.T (0, 0)) ∈ L := hp.mem_iff.2 (by simp)
      refine ⟨⟨b.r, off + i * size, none⟩, ?_, .inr ⟨_, vs.toArray, b.T, rfl, rfl, hmem, ?_, q3⟩, fun o m hle => .inr ⟨⟨b.r, off + i * size + o, none⟩, vs.toArray, b.T, ?_, rfl, hmem, ?_, ?_⟩, q3, q2⟩
      ·simp only [At.den, evalPure, evalIdx]
       rw [if_pos ⟨by omega, by omega⟩, add_none]
       simp
      ·rw [← hrowi, List.drop_drop]
      ·show Value.pointer (some ((⟨b.r, off + i * size, none⟩ : Addr).add o)) = _
       rw [add_none]
      ·rw [← hrowi, List.drop_drop, List.drop_take, List.take_take, Nat.min_eq_left (by omega), List.drop_drop]
      ·rw [List.length_take, List.length_drop, q3]; omega
     ·intro i r a hi ha
      have hlt : i < len := by
       have := (List.getElem?_eq_some_iff.1 hi).1
       simpa using this
      rw [List.getElem?_map, List.getElem?_range hlt] at hi
      have hi : ((vs.drop off).drop (i * size)).take size = r := by simpa using hi
      rw [← hi]
      exact (l2 i a ha).1
    ·cases h
   ·cases h
  ·cases h
 ·cases h
/-- Rows that are just those of the data. -/
theorem slD_map {α : Type} {mem : Mem} {size : Nat} {dec : Dec α} {row : α → List Value} (hd : DecOk size dec fun r a => r = row a) {x : At} {k : List Ck} {l : List α} (h : slD mem size dec x = some (k, l)) (hk : AllCk k) {L : Own} (hB : Boxes (fun n => (lookB mem n).getD none) L) (H : Heap) :
  RSl H L size x.den (l.map row) := by
 obtain ⟨_, rows, h1, h2, h3⟩ := slD_ok hd h hk hB H
 have : rows = l.map row := by
  refine List.ext_getElem (by simp [h2]) fun i a b => ?_
  have := h3 i rows[i] l[i] (List.getElem?_eq_getElem a) (List.getElem?_eq_getElem (by omega))
  rw [this]; simp
 rw [← this]; exact h1
def decInt : Dec Int
 | [a] => match dI a with | some n => some ([], n) | none => none
 | _ => none
theorem decInt_ok : DecOk 1 decInt fun r n => r = [iV n] := by
 intro cs k a h _
 unfold decInt at h
 split at h
 ·split at h
  ·rename_i n hn
   simp only [Option.some.injEq, Prod.mk.injEq] at h
   obtain ⟨_, rfl⟩ := h
   obtain rfl := dI_eq hn
   exact ⟨rfl, rfl, rfl, rfl, trivial⟩
  ·cases h
 ·cases h
def decTwo {α : Type} (f : Int → Int → α) : Dec α
 | [a, b] => match dI a, dI b with | some n, some m => some ([], f n m) | _, _ => none
 | _ => none
theorem decTwo_ok {α : Type} {f : Int → Int → α} {row : α → List Value} (hf : ∀ n m, row (f n m) = [iV n, iV m]) : DecOk 2 (decTwo f) fun r a => r = row a := by
 intro cs k a h _
 unfold decTwo at h
 split at h
 ·split at h
  ·rename_i n m hn hm
   simp only [Option.some.injEq, Prod.mk.injEq] at h
   obtain ⟨_, rfl⟩ := h
   obtain rfl := dI_eq hn
   obtain rfl := dI_eq hm
   exact ⟨rfl, rfl, (hf n m).symm, rfl, rfl, trivial⟩
  ·cases h
 ·cases h
def decOb : Dec Ob
 | [a0, a1, a2, a3, a4, a5, a6, a7, a8, b0, b1, b2] =>
  (dI a0).bind fun n0 => (dI a1).bind fun n1 => (dI a2).bind fun n2 => (dI a3).bind fun n3 => (dI a4).bind fun n4 => (dI a5).bind fun n5 => (dI a6).bind fun n6 => (dI a7).bind fun n7 => (dI a8).bind fun n8 => (dB b0).bind fun m0 => (dB b1).bind fun m1 => (dB b2).bind fun m2 => some ([], ⟨n0, n1, n2, n3, n4, n5, n6, n7, n8, m0, m1, m2⟩)
 | _ => none
theorem decOb_ok : DecOk 12 decOb fun r o => r = Ob.row o := by
 intro cs k a h _
 unfold decOb at h
 split at h
 ·simp only [Option.bind_eq_some_iff, Option.some.injEq, Prod.mk.injEq] at h
  obtain ⟨n0, e0, n1, e1, n2, e2, n3, e3, n4, e4, n5, e5, n6, e6, n7, e7, n8, e8, m0, f0, m1, f1, m2, f2, _, rfl⟩ := h
  obtain rfl := dI_eq e0
  obtain rfl := dI_eq e1
  obtain rfl := dI_eq e2
  obtain rfl := dI_eq e3
  obtain rfl := dI_eq e4
  obtain rfl := dI_eq e5
  obtain rfl := dI_eq e6
  obtain rfl := dI_eq e7
  obtain rfl := dI_eq e8
  obtain rfl := dB_eq f0
  obtain rfl := dB_eq f1
  obtain rfl := dB_eq f2
  exact ⟨rfl, rfl, rfl, rfl, rfl, rfl, rfl, rfl, rfl, rfl, rfl, rfl, rfl, rfl, rfl, trivial⟩
 ·cases h
def decIt (mem : Mem) : Dec It
 | [a0, a1, a2, a3, s] => (dI a0).bind fun n0 => (dI a1).bind fun n1 => (dI a2).bind fun n2 => (dI a3).bind fun n3 => (slD mem 2 (decTwo Tg.mk) s).bind fun t => some (t.1, ⟨n0, n1, n2, n3, t.2⟩)
 | _ => none
theorem decTg_ok : DecOk 2 (decTwo Tg.mk) fun r t => r = Tg.row t := decTwo_ok fun _ _ => rfl
theorem decBl_ok : DecOk 2 (decTwo Bl.mk) fun r t => r = Bl.row t := decTwo_ok fun _ _ => rfl
theorem decIt_ok {mem : Mem} {L : Own} (hB : Boxes (fun n => (lookB mem n).getD none) L) (H : Heap) : DecOk 5 (decIt mem) fun r x => ItR H L r x := by
 intro cs k a h hk
 unfold decIt at h
 split at h
 ·simp only [Option.bind_eq_some_iff, Option.some.injEq, Prod.mk.injEq] at h
  obtain ⟨n0, e0, n1, e1, n2, e2, n3, e3, t, e4, rfl, rfl⟩ := h
  obtain rfl := dI_eq e0
  obtain rfl := dI_eq e1
  obtain rfl := dI_eq e2
  obtain rfl := dI_eq e3
  have hs := slD_map decTg_ok e4 hk hB H
  have hkn := (slD_ok decTg_ok e4 hk hB H).1
  exact ⟨rfl, by rw [List.all_cons, List.all_cons, List.all_cons, List.all_cons, List.all_cons, hkn]; rfl, ⟨_, rfl, hs⟩, rfl, rfl, rfl, rfl, hs.one, trivial⟩
 ·cases h
theorem slD_its {mem : Mem} {x : At} {k : List Ck} {l : List It} (h : slD mem 5 (decIt mem) x = some (k, l)) (hk : AllCk k) {L : Own} (hB : Boxes (fun n => (lookB mem n).getD none) L) (H : Heap) : ItsR H L x.den l := by
 obtain ⟨_, rows, h1, h2, h3⟩ := slD_ok (decIt_ok hB H) h hk hB H
 exact ⟨rows, h1, h2, h3⟩
def dBd (mem : Mem) : List At → Option (List Ck × BV12 × Bd)
 | a0 :: a1 :: a2 :: a3 :: a4 :: a5 :: a6 :: a7 :: a8 :: a9 :: a10 :: a11 :: a12 :: a13 :: a14 :: a15 :: a16 :: a17 :: a18 :: a19 :: a20 :: a21 :: a22 :: a23 :: a24 :: a25 :: a26 :: a27 :: a28 :: a29 :: a30 :: a31 :: a32 :: a33 :: a34 :: a35 :: a36 :: a37 :: [] =>
  (slD mem 12 decOb a0).bind fun n0 => (dI a1).bind fun n1 => (dI a2).bind fun n2 => (dI a3).bind fun n3 => (dI a4).bind fun n4 => (dI a5).bind fun n5 => (slD mem 1 decInt a6).bind fun n6 => (slD mem 1 decInt a7).bind fun n7 => (slD mem 1 decInt a8).bind fun n8 => (slD mem 1 decInt a9).bind fun n9 => (dB a10).bind fun n10 => (dB a11).bind fun n11 => (dB a12).bind fun n12 => (dI a13).bind fun n13 => (dI a14).bind fun n14 => (dI a15).bind fun n15 => (dI a16).bind fun n16 => (dI a17).bind fun n17 => (dI a18).bind fun n18 => (dI a19).bind fun n19 => (slD mem 1 decInt a20).bind fun n20 => (slD mem 1 decInt a21).bind fun n21 => (slD mem 1 decInt a22).bind fun n22 => (slD mem 1 decInt a23).bind fun n23 => (dB a24).bind fun n24 => (dB a25).bind fun n25 => (dB a26).bind fun n26 => (dI a27).bind fun n27 => (dI a28).bind fun n28 => (slD mem 5 (decIt mem) a29).bind fun n29 => (slD mem 5 (decIt mem) a30).bind fun n30 => (slD mem 1 decInt a31).bind fun n31 => (slD mem 2 (decTwo Bl.mk) a32).bind fun n32 => (dI a33).bind fun n33 => (dI a34).bind fun n34 => (dI a35).bind fun n35 => (dI a36).bind fun n36 => (dI a37).bind fun n37 => 
   some (n0.1 ++ (n6.1 ++ (n7.1 ++ (n8.1 ++ (n9.1 ++ (n20.1 ++ (n21.1 ++ (n22.1 ++ (n23.1 ++ (n29.1 ++ (n30.1 ++ (n31.1 ++ (n32.1)))))))))))), ⟨a0.den, a6.den, a7.den, a8.den, a9.den, a20.den, a21.den, a22.den, a23.den, a29.den, a30.den, a31.den, a32.den⟩, ⟨n0.2, ⟨n1, n2, n3, n4, n5, n6.2, n7.2, n8.2, n9.2, n10, n11, n12, n13, n14⟩, ⟨n15, n16, n17, n18, n19, n20.2, n21.2, n22.2, n23.2, n24, n25, n26, n27, n28⟩, n29.2, n30.2, n31.2, n32.2, n33, n34, n35, n36, n37⟩)
 | _ => none
theorem dBd_ok {mem : Mem} {l : List At} {k : List Ck} {v : BV12} {b : Bd} (h : dBd mem l = some (k, v, b)) (hk : AllCk k) {L : Own} (hB : Boxes (fun n => (lookB mem n).getD none) L) (H : Heap) : l.map At.den = boardC v b ∧ BdR H L v b := by
 unfold dBd at h
 split at h
 ·simp only [Option.bind_eq_some_iff, Option.some.injEq, Prod.mk.injEq] at h
  obtain ⟨n0, e0, n1, e1, n2, e2, n3, e3, n4, e4, n5, e5, n6, e6, n7, e7, n8, e8, n9, e9, n10, e10, n11, e11, n12, e12, n13, e13, n14, e14, n15, e15, n16, e16, n17, e17, n18, e18, n19, e19, n20, e20, n21, e21, n22, e22, n23, e23, n24, e24, n25, e25, n26, e26, n27, e27, n28, e28, n29, e29, n30, e30, n31, e31, n32, e32, n33, e33, n34, e34, n35, e35, n36, e36, n37, e37, rfl, rfl, rfl⟩ := h
  simp only [AllCk.append] at hk
  obtain ⟨c0, c6, c7, c8, c9, c20, c21, c22, c23, c29, c30, c31, c32⟩ := hk
  obtain rfl := dI_eq e1
  obtain rfl := dI_eq e2
  obtain rfl := dI_eq e3
  obtain rfl := dI_eq e4
  obtain rfl := dI_eq e5
  obtain rfl := dB_eq e10
  obtain rfl := dB_eq e11
  obtain rfl := dB_eq e12
  obtain rfl := dI_eq e13
  obtain rfl := dI_eq e14
  obtain rfl := dI_eq e15
  obtain rfl := dI_eq e16
  obtain rfl := dI_eq e17
  obtain rfl := dI_eq e18
  obtain rfl := dI_eq e19
  obtain rfl := dB_eq e24
  obtain rfl := dB_eq e25
  obtain rfl := dB_eq e26
  obtain rfl := dI_eq e27
  obtain rfl := dI_eq e28
  obtain rfl := dI_eq e33
  obtain rfl := dI_eq e34
  obtain rfl := dI_eq e35
  obtain rfl := dI_eq e36
  obtain rfl := dI_eq e37
  exact ⟨rfl, ⟨slD_map decOb_ok e0 c0 hB H, ⟨slD_map decInt_ok e6 c6 hB H, slD_map decInt_ok e7 c7 hB H, slD_map decInt_ok e8 c8 hB H, slD_map decInt_ok e9 c9 hB H⟩, ⟨slD_map decInt_ok e20 c20 hB H, slD_map decInt_ok e21 c21 hB H, slD_map decInt_ok e22 c22 hB H, slD_map decInt_ok e23 c23 hB H⟩, slD_its e29 c29 hB H, slD_its e30 c30 hB H, slD_map decInt_ok e31 c31 hB H, slD_map decBl_ok e32 c32 hB H⟩⟩
 ·cases h
/-- A function of one board that hands back a bool. -/
def sumB (fv : Nat) (val : Bd → Bool) : SumF := fun f args mem _ =>
 if Nat.beq f fv = true then
  match args with
  | [.agg l] => match dBd mem l with
   | some (k, _, b) => some (k, .s (.at (.k (.bool (val b)))))
   | none => none
  | _ => none
 else none
theorem sumB_ok {P : Program} {ok : FuncId → Bool} {fv : Nat} {val : Bd → Bool} (hc : ∀ (H : Heap) (O : Own) (v : BV12) (b : Bd), BdR H O v b → RetO P fv [.agg (boardC v b).toArray] H O (.bool (val b))) (H : Heap) : SumOk P ok H (sumB fv val) := by
 intro f args mem h cs sv _ hs hck
 unfold sumB at hs
 split at hs
 ·rename_i hf
  have hf : f = fv := Nat.eq_of_beq_eq_true hf
  subst hf
  split at hs
  ·rename_i l
   split at hs
   ·rename_i k v b hd
    simp only [Option.some.injEq, Prod.mk.injEq] at hs
    obtain ⟨rfl, rfl⟩ := hs
    refine ⟨ok_k _, fun F w next _ hm => ?_⟩
    obtain ⟨L, O, hB, hok, hM, hmod, hfr⟩ := hm
    obtain ⟨h1, h2⟩ := dBd_ok hd hck hB H
    have hret := Triple.frame (hc H L v b h2) O
    have e : (([S1.agg l] : List S1).map S1.den).toArray = [Value.agg (boardC v b).toArray].toArray := by simp [S1.den, h1]
    rw [e]
    refine (hret w F (by simpa using hmod)).mono ?_
    rintro e' w' ⟨v', H', O', he, ⟨O'', q1, q2, q3⟩, hle, hm'⟩
    rw [q1, q3] at hm'
    exact ⟨v', he, q2, L, O, hB, hok, hM, by simpa using hm'.less hle, hfr⟩
   ·cases hs
  ·cases hs
 ·cases hs
end Go.Sx
