/- What a call of 'known' hands back. -/
import Derived.Test.YtbaegnnmedjkmaaKN
import Derived.Test.YtbaegnnmedjkmaaC10
import Derived.Test.YtbaegnnmedjkmaaM17
namespace Go.Proofs.Ytbaegnnmedjkmaa
open Go Go.Sx
set_option maxRecDepth 100000
set_option maxHeartbeats 1000000
end Go.Proofs.Ytbaegnnmedjkmaa
namespace Go.Proofs.Ytbaegnnmedjkmaa
open Go Go.Sx
set_option maxRecDepth 100000
set_option maxHeartbeats 1000000
end Go.Proofs.Ytbaegnnmedjkmaa
namespace Go.Proofs.Ytbaegnnmedjkmaa
open Go Go.Sx
set_option maxRecDepth 100000
set_option maxHeartbeats 1000000
end Go.Proofs.Ytbaegnnmedjkmaa
namespace Go.Proofs.Ytbaegnnmedjkmaa
open Go Go.Sx
set_option maxRecDepth 100000
set_option maxHeartbeats 1000000
theorem Triple.frozenS {P : Program} {f : FuncId} {args : List Value} {H : Heap} {e : TypeId} {size : Nat} {rows : List (List Value)} (h : Triple P f args H [] fun v _ O' => OSl e size v rows O') :
  Triple P f args H [] fun v H' O' => Sl H' size v rows ∧ O' = [] := by
 refine h.ghost ?_
 intro v H' O' _ hc ho
 obtain ⟨H'', g, k, _⟩ := ho.freeze (X := []) (by simpa using hc)
 exact ⟨H'', [], by simpa using g, k, rfl⟩
theorem filter_take {α : Type} {p : α → Bool} {l : List α} {i : Nat} (h : i < l.length) : (l.take (i + 1)).filter p = (l.take i).filter p ++ (if p l[i] then [l[i]] else []) := by
 rw [List.take_add_one, List.getElem?_eq_getElem h, List.filter_append]
 congr 1
 simp only [Option.toList_some, List.filter_cons, List.filter_nil]
end Go.Proofs.Ytbaegnnmedjkmaa
namespace Go.Proofs.Ytbaegnnmedjkmaa
open Go Go.Sx
set_option maxRecDepth 100000
set_option maxHeartbeats 1000000
end Go.Proofs.Ytbaegnnmedjkmaa
namespace Go.Proofs.Ytbaegnnmedjkmaa
open Go Go.Sx
set_option maxRecDepth 100000
set_option maxHeartbeats 1000000
end Go.Proofs.Ytbaegnnmedjkmaa
namespace Go.Proofs.Ytbaegnnmedjkmaa
open Go Go.Sx
set_option maxRecDepth 100000
set_option maxHeartbeats 1000000
theorem look_den {H : Heap} {O : Own} {v : Value} {ks : List Int} (h : KindS H v ks) (c : Int) :
  (∃ x : Bool, (x = true ↔ (c < 0 ∨ c ≥ (ks.length : Int))) ∧ evalPure .len [v] = some (iV ks.length) ∧ x = (decide (c < 0) || decide (c ≥ (ks.length : Int)))) ∧
  (¬ (c < 0 ∨ c ≥ (ks.length : Int)) → ∃ a r, evalPure (.idx 14) [v, iV c] = some (.pointer (some a)) ∧ H.read (.pointer (some a)) 14 = some r ∧ r.length = 14 ∧ Ones r ∧ g r 1 = iV (kindAt ks c)) := by
 obtain ⟨rows, h1, h2, h3⟩ := h
 refine ⟨⟨_, ?_, ?_, rfl⟩, fun hn => ?_⟩
 ·simp
 ·have := h1.len; rw [this, h2]
 ·have hlt : c.toNat < rows.length := by omega
  obtain ⟨a, k1, k2, k3, k4⟩ := h1.idx (k := .i64) (i := c.toNat) (List.getElem?_eq_getElem hlt)
  have hk : ks[c.toNat]? = some (ks.getD c.toNat 0) := by
   rw [List.getD_eq_getElem?_getD, List.getElem?_eq_getElem (by omega)]; rfl
  have e := h3 c.toNat _ _ (List.getElem?_eq_getElem hlt) hk
  refine ⟨a, _, ?_, k2, k3, k4, ?_⟩
  ·rw [show iV c = iV (c.toNat : Int) by rw [Int.toNat_of_nonneg (by omega)]]; exact k1
  ·rw [e, kindAt, if_neg hn]
theorem row14 {r : List Value} (h : r.length = 14) : ([g r 0, g r 1, g r 2, g r 3, g r 4, g r 5, g r 6, g r 7, g r 8, g r 9, g r 10, g r 11, g r 12, g r 13] : List Value) = r := row_eq h
abbrev zCard : List Value := [.string ⟨#[]⟩, iV 0, iV 0, iV 0, iV 0, iV 0, iV 0, iV 0, iV 0, iV 0, iV 0, .slice none 0 0, .slice none 0 0, iV 0]
def LookR (ks : List Int) (c : Int) (r : Value) (_ : Heap) : Prop := ∃ cells : List Value, r = .agg cells.toArray ∧ cells.length = 14 ∧ Ones cells ∧ g cells 1 = iV (kindAt ks c)
theorem c_look {H : Heap} {O : Own} {v : Value} {ks : List Int} (h : KindS H v ks) (o : Ob) : Triple PP F_object_look [v, .agg o.row.toArray] H O fun r H' O' => LookR ks o.card r H' ∧ O' = O := by
 refine run_object_look (vs := v :: o.row) (by kernel_rfl) ⟨h.one, ob_ones o⟩ ?_
 simp only [T_object_look]
 obtain ⟨⟨x, hx, hlen, ex⟩, hlook⟩ := look_den (O := O) h o.card
 refine newbox_den fun r0 => newbox_den fun r1 => ?_
 repeat (first | refine chkN_den ?_ | refine chkV_den ?_)
 refine pure_den _ (lss_eq _ _) ?_
 repeat (first | refine chkN_den ?_ | refine chkV_den ?_)
 refine pure_den _ hlen ?_
 repeat (first | refine chkN_den ?_ | refine chkV_den ?_ | refine newbox_den fun _ => ?_ | refine pure_den _ (lss_eq _ _) ?_ | refine pure_den _ (gtr_eq _ _) ?_ | refine pure_den _ (leq_eq _ _) ?_ | refine pure_den _ (geq_eq _ _) ?_ | refine pure_den _ (eql_eq _ _) ?_ | refine pure_den _ (neq_eq _ _) ?_ | refine pure_den _ (pick_and _ _) ?_ | refine pure_den _ (pick_or _ _) ?_ | refine pure_den _ (not_eq' _) ?_ | refine pure_den _ (beql_eq _ _) ?_ | refine pure_den _ (bneq_eq _ _) ?_)
 refine br_den (fun hb => ?_) (fun hb => ?_)
 ·have hb : (decide (o.card < 0) || decide (o.card ≥ (ks.length : Int))) = true := hb
  rw [← ex] at hb
  repeat (first | refine chkN_den ?_ | refine chkV_den ?_)
  refine ret_denO ⟨⟨zCard, rfl, rfl, ⟨rfl, rfl, rfl, rfl, rfl, rfl, rfl, rfl, rfl, rfl, rfl, rfl, rfl, rfl, trivial⟩, ?_⟩, rfl⟩
  rw [kindAt, if_pos (hx.1 hb)]; rfl
 ·have hb : (decide (o.card < 0) || decide (o.card ≥ (ks.length : Int))) = false := hb
  rw [← ex] at hb
  obtain ⟨a, r, k1, k2, k3, k4, k5⟩ := hlook (fun e => by rw [hx.2 e] at hb; cases hb)
  repeat (first | refine chkN_den ?_ | refine chkV_den ?_)
  refine pure_den _ k1 (load_denR (reads_frozen k2) k3 k4 ?_)
  repeat (first | refine chkN_den ?_ | refine chkV_den ?_)
  exact ret_denO ⟨⟨r, by rw [← row14 k3]; rfl, k3, k4, k5⟩, rfl⟩
theorem c_Creature {H : Heap} {O : Own} {v : Value} {ks : List Int} (h : KindS H v ks) (o : Ob) : RetO PP F_object_Creature [v, .agg o.row.toArray] H O (.bool (creatB ks o)) := by
 refine run_object_Creature (vs := v :: o.row) (by kernel_rfl) ⟨h.one, ob_ones o⟩ ?_
 simp only [T_object_Creature]
 refine newbox_den fun r0 => ?_
 repeat (first | refine chkN_den ?_ | refine chkV_den ?_)
 refine pure_den _ (eql_eq _ _) (br_den (fun hb => ret_denO ⟨?_, rfl⟩) (fun hb => ?_))
 ·have hb : (o.card == -1) = true := hb
  rw [creatB, hb]; rfl
 ·have hb : (o.card == -1) = false := hb
  repeat (first | refine chkN_den ?_ | refine chkV_den ?_)
  refine call_givesO (c_look h o) ?_
  rintro _ H1 ⟨cells, rfl, k1, k2, k3⟩ l1
  refine ⟨cells, by simp [Shp.open, k1], k2, ?_⟩
  dsimp only
  rw [k3]
  repeat (first | refine chkN_den ?_ | refine chkV_den ?_ | refine newbox_den fun _ => ?_ | refine pure_den _ (lss_eq _ _) ?_ | refine pure_den _ (gtr_eq _ _) ?_ | refine pure_den _ (leq_eq _ _) ?_ | refine pure_den _ (geq_eq _ _) ?_ | refine pure_den _ (eql_eq _ _) ?_ | refine pure_den _ (neq_eq _ _) ?_ | refine pure_den _ (pick_and _ _) ?_ | refine pure_den _ (pick_or _ _) ?_ | refine pure_den _ (not_eq' _) ?_ | refine pure_den _ (beql_eq _ _) ?_ | refine pure_den _ (bneq_eq _ _) ?_)
  refine ret_denO ⟨?_, rfl⟩
  rw [creatB, hb]; rfl
def isCr (ks : List Int) (b : Bd) (p : Int) (o : Ob) : Bool := o.owner == p && (creatB ks o && (seatOf b p).field.contains o.id)
/-- The creatures of a player, as the program says. -/
def creatP (ks : List Int) (b : Bd) (p : Int) : List Int := if (withinB p 0 1 && validBd b) = true then (b.objs.filter (isCr ks b p)).map (·.id) else []
theorem c_CreaturesO {H : Heap} {cv : Value} {ks : List Int} (hk : KindS H cv ks) {v : BV12} {b : Bd} (h : BdS H v b) (p : Int) :
  Triple PP F_board_Creatures [cv, .agg (boardC v b).toArray, iV p] H [] fun r _ O' => OSl Ty_int 1 r (ints (creatP ks b p)) O' := by
 refine run_board_Creatures (vs := cv :: (boardC v b ++ [iV p])) (by kernel_rfl) ⟨hk.one, ones_app (boardC_ones (h.r [])) ⟨rfl, trivial⟩⟩ ?_
 simp only [T_board_Creatures]
 refine newbox_den fun r0 => ?_
 repeat (first | refine chkN_den ?_ | refine chkV_den ?_)
 refine call_retO (c_within p 0 1 H []) rfl ⟨rfl, trivial⟩ fun H1 l1 => pure_den _ (not_eq' _) (br_den (fun hb => ?_) (fun hb => ?_))
 ·have e : creatP ks b p = [] := by rw [creatP, if_neg]; rw [show withinB p 0 1 = false from notT hb]; simp
  rw [e]
  repeat (first | refine chkN_den ?_ | refine chkV_den ?_)
  exact ret_denO (OSl.nil _ _)
 have hw : withinB p 0 1 = true := notF hb
 replace h := h.le l1
 replace hk := hk.le l1
 repeat (first | refine chkN_den ?_ | refine chkV_den ?_)
 refine call_retO (c_board_Valid (h.r [])) rfl ⟨rfl, trivial⟩ fun H2 l2 => pure_den _ (not_eq' _) (br_den (fun hb => ?_) (fun hb => ?_))
 ·have e : creatP ks b p = [] := by rw [creatP, if_neg]; rw [show validBd b = false from notT hb]; simp
  rw [e]
  repeat (first | refine chkN_den ?_ | refine chkV_den ?_)
  exact ret_denO (OSl.nil _ _)
 have hv : validBd b = true := notF hb
 have hobl := valid_len hv
 have e : creatP ks b p = (b.objs.filter (isCr ks b p)).map (·.id) := by rw [creatP, if_pos (by rw [hw, hv]; rfl)]
 rw [e]
 clear hb e
 replace h := h.le l2
 replace hk := hk.le l2
 have lo := h.objs.len
 rw [List.length_map] at lo
 have hp : p = 0 ∨ p = 1 := by simp only [withinB, decide_eq_true_eq] at hw; omega
 repeat (first | refine chkN_den ?_ | refine chkV_den ?_)
 refine pure_den _ lo ?_
 repeat (first | refine chkN_den ?_ | refine chkV_den ?_)
 refine countY_den b.objs.length (fun i x H' O' => Heap.le H2 H' ∧ OSl Ty_int 1 x (ints (((b.objs.take i).filter (isCr ks b p)).map (·.id))) O') ⟨Heap.le_refl _, OSl.nil _ _⟩ ?_
 rintro i x H' O' hi - ⟨hle, hx⟩
 refine pure_den _ (lss_eq _ _) (br_den (fun hb => ?_) (fun hb => ?_))
 ·have hlt : i < b.objs.length := by simpa using hb
  obtain ⟨a, i1, i2, i3, i4⟩ := (h.objs.le hle).idx (k := .i64) (i := i) (r := Ob.row b.objs[i]) (by simp [hlt])
  have hft := filter_take (p := isCr ks b p) hlt
  have hnot : isCr ks b p b.objs[i] = false → ∀ H3, Heap.le H' H3 → (Heap.le H2 H3 ∧ OSl Ty_int 1 x (ints (((b.objs.take (i + 1)).filter (isCr ks b p)).map (·.id))) O') := fun hn H3 l3 => by
   rw [hft, if_neg (by rw [hn]; simp), List.append_nil]; exact ⟨Heap.le_trans hle l3, hx⟩
  repeat (first | refine chkN_den ?_ | refine chkV_den ?_)
  refine pure_den _ i1 (load_den i2 i3 i4 (newbox_den fun r1 => ?_))
  repeat (first | refine chkN_den ?_ | refine chkV_den ?_)
  refine pure_den _ (eql_eq _ _) ?_
  refine br_den (fun h1 => ?_) (fun h1 => ?_)
  ·have h1 : (b.objs[i].owner == p) = true := h1
   repeat (first | refine chkN_den ?_ | refine chkV_den ?_)
   refine call_retO (c_Creature (hk.le hle) b.objs[i]) rfl ⟨rfl, trivial⟩ fun H3 l3 => br_den (fun h2 => ?_) (fun h2 => ?_)
   ·have lz := Heap.le_trans hle l3
    repeat (first | refine chkN_den ?_ | refine chkV_den ?_)
    rcases hp with rfl | rfl
    ·refine ⟨.i64, 0, rfl, fun _ => ?_, fun e => absurd rfl e⟩
     repeat (first | refine chkN_den ?_ | refine chkV_den ?_)
     refine call_retO (c_Contains_int (((h.s0.field).le lz).rsl O') b.objs[i].id) rfl ⟨rfl, trivial⟩ fun H4 l4 => br_den (fun h3 => ?_) (fun h3 => ?_)
     ·have hcr : isCr ks b 0 b.objs[i] = true := by rw [isCr, h1, h2]; exact h3
      have hlen : ((b.objs.take i).filter (isCr ks b 0)).length ≤ 1000000 := Nat.le_trans (List.length_filter_le _ _) (by rw [List.length_take]; omega)
      repeat (first | refine chkN_den ?_ | refine chkV_den ?_)
      refine newbox_den fun r2 => ?_
      repeat (first | refine chkN_den ?_ | refine chkV_den ?_)
      refine call_append (rows := ints (((b.objs.take i).filter (isCr ks b 0)).map fun o : Ob => o.id)) (news := [[iV b.objs[i].id]]) (O1 := O') (O2 := []) (e := Ty_int) (size := 1) (bytes := 8) (by kernel_rfl) (by simp) hx (fun Hf _ hf => Sl.block1 (hf _ List.mem_cons_self) rfl ⟨rfl, trivial⟩) (by simp [ints]; omega) (by simp [ints]; omega) ?_
      intro v' A' H6 l6 hA'
      refine pure_den _ (add_one (by omega)) (countY_cont (by simp [Eqs]) hlt ⟨Heap.le_trans lz (Heap.le_trans l4 l6), ?_⟩)
      rw [List.append_nil, hft, if_pos hcr, List.map_append, ints, List.map_append]; exact hA'
     ·have hcr : isCr ks b 0 b.objs[i] = false := by rw [isCr, h1, h2]; exact h3
      repeat (first | refine chkN_den ?_ | refine chkV_den ?_)
      exact pure_den _ (add_one (by omega)) (countY_cont (by simp [Eqs]) hlt (hnot hcr _ (Heap.le_trans l3 l4)))
    ·refine ⟨.i64, 1, rfl, fun e => absurd e (by omega), fun _ => ⟨.i64, 1, rfl, fun _ => ?_, fun e => absurd rfl e⟩⟩
     repeat (first | refine chkN_den ?_ | refine chkV_den ?_)
     refine call_retO (c_Contains_int (((h.s1.field).le lz).rsl O') b.objs[i].id) rfl ⟨rfl, trivial⟩ fun H4 l4 => br_den (fun h3 => ?_) (fun h3 => ?_)
     ·have hcr : isCr ks b 1 b.objs[i] = true := by rw [isCr, h1, h2]; exact h3
      have hlen : ((b.objs.take i).filter (isCr ks b 1)).length ≤ 1000000 := Nat.le_trans (List.length_filter_le _ _) (by rw [List.length_take]; omega)
      repeat (first | refine chkN_den ?_ | refine chkV_den ?_)
      refine newbox_den fun r2 => ?_
      repeat (first | refine chkN_den ?_ | refine chkV_den ?_)
      refine call_append (rows := ints (((b.objs.take i).filter (isCr ks b 1)).map fun o : Ob => o.id)) (news := [[iV b.objs[i].id]]) (O1 := O') (O2 := []) (e := Ty_int) (size := 1) (bytes := 8) (by kernel_rfl) (by simp) hx (fun Hf _ hf => Sl.block1 (hf _ List.mem_cons_self) rfl ⟨rfl, trivial⟩) (by simp [ints]; omega) (by simp [ints]; omega) ?_
      intro v' A' H6 l6 hA'
      refine pure_den _ (add_one (by omega)) (countY_cont (by simp [Eqs]) hlt ⟨Heap.le_trans lz (Heap.le_trans l4 l6), ?_⟩)
      rw [List.append_nil, hft, if_pos hcr, List.map_append, ints, List.map_append]; exact hA'
     ·have hcr : isCr ks b 1 b.objs[i] = false := by rw [isCr, h1, h2]; exact h3
      repeat (first | refine chkN_den ?_ | refine chkV_den ?_)
      exact pure_den _ (add_one (by omega)) (countY_cont (by simp [Eqs]) hlt (hnot hcr _ (Heap.le_trans l3 l4)))
   ·have hcr : isCr ks b p b.objs[i] = false := by rw [isCr, h1, h2]; rfl
    repeat (first | refine chkN_den ?_ | refine chkV_den ?_)
    exact pure_den _ (add_one (by omega)) (countY_cont (by simp [Eqs]) hlt (hnot hcr _ l3))
  ·have h1 : (b.objs[i].owner == p) = false := h1
   have hcr : isCr ks b p b.objs[i] = false := by rw [isCr, h1]; rfl
   repeat (first | refine chkN_den ?_ | refine chkV_den ?_)
   exact pure_den _ (add_one (by omega)) (countY_cont (by simp [Eqs]) hlt (hnot hcr _ (Heap.le_refl _)))
 ·have hge : b.objs.length ≤ i := by simpa using hb
  rw [List.take_of_length_le hge] at hx
  exact ret_denO hx
theorem c_Creatures {H : Heap} {cv : Value} {ks : List Int} (hk : KindS H cv ks) {v : BV12} {b : Bd} (h : BdS H v b) (p : Int) :
  Triple PP F_board_Creatures [cv, .agg (boardC v b).toArray, iV p] H [] fun r H' O' => Sl H' 1 r (ints (creatP ks b p)) ∧ O' = [] := Triple.frozenS (c_CreaturesO hk h p)
end Go.Proofs.Ytbaegnnmedjkmaa
namespace Go.Proofs.Ytbaegnnmedjkmaa
open Go Go.Sx
set_option maxRecDepth 100000
set_option maxHeartbeats 1000000
theorem ord_pairwise : ∀ {l : List Ob} {prev : Option Int}, ordP prev l = true → (l.map (·.id)).Pairwise (· < ·)
 | [], _, _ => List.Pairwise.nil
 | a :: l, prev, h => by
  simp only [ordP, Bool.and_eq_true] at h
  rw [List.map_cons, List.pairwise_cons]
  refine ⟨fun x hx => ?_, ord_pairwise h.2⟩
  obtain ⟨o, ho, rfl⟩ := List.mem_map.1 hx
  exact (ordP_spec h.2).1 o ho _ rfl
end Go.Proofs.Ytbaegnnmedjkmaa
namespace Go.Proofs.Ytbaegnnmedjkmaa
open Go Go.Sx
set_option maxRecDepth 100000
set_option maxHeartbeats 1000000
theorem zCdR (H : Heap) : CdR H zCard zCd := ⟨rfl, EffsS.nil H, TrigsS.nil H⟩
theorem looks_den {H : Heap} {v : Value} {cs : List Cd} (h : CardsS H v cs) (c : Int) (hn : ¬ (c < 0 ∨ c ≥ (cs.length : Int))) :
  ∃ a r, evalPure (.idx 14) [v, iV c] = some (.pointer (some a)) ∧ H.read (.pointer (some a)) 14 = some r ∧ r.length = 14 ∧ Ones r ∧ CdR H r (cdAt cs c) := by
 obtain ⟨rows, h1, h2, h3⟩ := h
 have hlt : c.toNat < rows.length := by omega
 obtain ⟨a, k1, k2, k3, k4⟩ := h1.idx (k := .i64) (i := c.toNat) (List.getElem?_eq_getElem hlt)
 have hk : cs[c.toNat]? = some (cdAt cs c) := by
  rw [cdAt, if_neg hn, List.getD_eq_getElem?_getD, List.getElem?_eq_getElem (by omega)]; rfl
 refine ⟨a, _, ?_, k2, k3, k4, h3 c.toNat _ _ (List.getElem?_eq_getElem hlt) hk⟩
 rw [show iV c = iV (c.toNat : Int) by rw [Int.toNat_of_nonneg (by omega)]]; exact k1
/-- What a look at a card hands back. -/
def LookC (cs : List Cd) (c : Int) (v : Value) (H : Heap) : Prop := ∃ cells : List Value, v = .agg cells.toArray ∧ cells.length = 14 ∧ Ones cells ∧ CdR H cells (cdAt cs c)
theorem c_lookC {H : Heap} {O : Own} {v : Value} {cs : List Cd} (h : CardsS H v cs) (o : Ob) : Triple PP F_object_look [v, .agg o.row.toArray] H O fun r H' O' => LookC cs o.card r H' ∧ O' = O := by
 refine run_object_look (vs := v :: o.row) (by kernel_rfl) ⟨h.one, ob_ones o⟩ ?_
 simp only [T_object_look]
 refine newbox_den fun r0 => newbox_den fun r1 => ?_
 repeat (first | refine chkN_den ?_ | refine chkV_den ?_)
 refine pure_den _ (lss_eq _ _) ?_
 repeat (first | refine chkN_den ?_ | refine chkV_den ?_)
 refine pure_den _ h.len ?_
 repeat (first | refine chkN_den ?_ | refine chkV_den ?_ | refine newbox_den fun _ => ?_ | refine pure_den _ (lss_eq _ _) ?_ | refine pure_den _ (gtr_eq _ _) ?_ | refine pure_den _ (leq_eq _ _) ?_ | refine pure_den _ (geq_eq _ _) ?_ | refine pure_den _ (eql_eq _ _) ?_ | refine pure_den _ (neq_eq _ _) ?_ | refine pure_den _ (pick_and _ _) ?_ | refine pure_den _ (pick_or _ _) ?_ | refine pure_den _ (not_eq' _) ?_ | refine pure_den _ (beql_eq _ _) ?_ | refine pure_den _ (bneq_eq _ _) ?_)
 refine br_den (fun hb => ?_) (fun hb => ?_)
 ·have hb : (decide (o.card < 0) || decide (o.card ≥ (cs.length : Int))) = true := hb
  repeat (first | refine chkN_den ?_ | refine chkV_den ?_)
  refine ret_denO ⟨⟨zCard, rfl, rfl, ⟨rfl, rfl, rfl, rfl, rfl, rfl, rfl, rfl, rfl, rfl, rfl, rfl, rfl, rfl, trivial⟩, ?_⟩, rfl⟩
  rw [cdAt, if_pos (by simpa using hb)]; exact zCdR H
 ·have hb : (decide (o.card < 0) || decide (o.card ≥ (cs.length : Int))) = false := hb
  obtain ⟨a, r, k1, k2, k3, k4, k5⟩ := looks_den h o.card (by simpa [Bool.or_eq_false_iff] using hb)
  repeat (first | refine chkN_den ?_ | refine chkV_den ?_)
  refine pure_den _ k1 (load_denR (reads_frozen k2) k3 k4 ?_)
  repeat (first | refine chkN_den ?_ | refine chkV_den ?_)
  exact ret_denO ⟨⟨r, by rw [← row14 k3]; rfl, k3, k4, k5⟩, rfl⟩
theorem c_CloneE {H : Heap} {v : Value} {l : List (List Value)} (h : Sl H 5 v l) (hb : l.length ≤ 2 ^ 30) : Triple PP F_slices_Clone_api_Effect_api_Effect [v] H [] fun v' H' O' => OSl Ty_api_Effect 5 v' l O' := by
 refine run_slices_Clone_api_Effect_api_Effect (vs := [v]) (by kernel_rfl) ⟨h.one, trivial⟩ ?_
 simp only [T_slices_Clone_api_Effect_api_Effect]
 obtain ⟨a, cap, rfl, h1, h2, h3⟩ := h
 have hev : evalPure (.bin .eql .slice) [.slice a l.length cap, .slice none 0 0] = some (.bool a.isNone) := by cases a <;> rfl
 refine pure_den _ hev (br_den (fun hn => ret_denO ?_) (fun hn => fun r0 => ?_))
 ·have hl : l = [] := by
   by_cases hl : l = []
   ·exact hl
   ·obtain ⟨ad, rfl, _⟩ := h3 hl; cases hn
  subst hl
  exact OSl.nil Ty_api_Effect 5
 ·refine call_append (rows := []) (news := l) (O1 := []) (O2 := []) (e := Ty_api_Effect) (size := 5) (bytes := 40) (by kernel_rfl) (List.Perm.refl _) (.inl ⟨⟨_, rfl⟩, rfl, rfl⟩) (fun Hf hl _ => Sl.le hl ⟨a, cap, rfl, h1, h2, h3⟩) (by simp; omega) (by simp; omega) ?_
  intro v' O1' H' _ ho
  refine ret_denO ?_
  rw [List.append_nil]
  exact ho
theorem c_CloneT {H : Heap} {v : Value} {l : List (List Value)} (h : Sl H 2 v l) (hb : l.length ≤ 2 ^ 30) : Triple PP F_slices_Clone_api_Trigger_api_Trigger [v] H [] fun v' H' O' => OSl Ty_api_Trigger 2 v' l O' := by
 refine run_slices_Clone_api_Trigger_api_Trigger (vs := [v]) (by kernel_rfl) ⟨h.one, trivial⟩ ?_
 simp only [T_slices_Clone_api_Trigger_api_Trigger]
 obtain ⟨a, cap, rfl, h1, h2, h3⟩ := h
 have hev : evalPure (.bin .eql .slice) [.slice a l.length cap, .slice none 0 0] = some (.bool a.isNone) := by cases a <;> rfl
 refine pure_den _ hev (br_den (fun hn => ret_denO ?_) (fun hn => fun r0 => ?_))
 ·have hl : l = [] := by
   by_cases hl : l = []
   ·exact hl
   ·obtain ⟨ad, rfl, _⟩ := h3 hl; cases hn
  subst hl
  exact OSl.nil Ty_api_Trigger 2
 ·refine call_append (rows := []) (news := l) (O1 := []) (O2 := []) (e := Ty_api_Trigger) (size := 2) (bytes := 32) (by kernel_rfl) (List.Perm.refl _) (.inl ⟨⟨_, rfl⟩, rfl, rfl⟩) (fun Hf hl _ => Sl.le hl ⟨a, cap, rfl, h1, h2, h3⟩) (by simp; omega) (by simp; omega) ?_
  intro v' O1' H' _ ho
  refine ret_denO ?_
  rw [List.append_nil]
  exact ho
/-- What a copy of a card hands back. -/
def CopyC (c : Cd) (v : Value) (H : Heap) : Prop := ∃ cells : List Value, v = .agg cells.toArray ∧ cells.length = 14 ∧ Ones cells ∧ g cells 1 = iV c.kind ∧ EffsS H (g cells 11) c.tg
theorem ones_at {l : List Value} (h : Ones l) {i : Nat} (hi : i < l.length) : (g l i).oneCell' = true := by
 rw [g, List.getD_eq_getElem?_getD, List.getElem?_eq_getElem hi]
 exact ones_mem h _ (List.getElem_mem hi)
theorem c_CardCopy {H : Heap} {cells : List Value} {c : Cd} (h : CdR H cells c) (hl : cells.length = 14) (ho : Ones cells) (hli : cdLight c = true) :
  Triple PP F_card_Copy [.agg cells.toArray] H [] fun r H' O' => CopyC c r H' ∧ O' = [] := by
 simp only [cdLight, Bool.and_eq_true, Bool.not_eq_true', Bool.or_eq_false_iff, decide_eq_false_iff_not, List.all_eq_true] at hli
 obtain ⟨⟨b1, b2⟩, b3⟩ := hli
 obtain ⟨hk, ⟨erows, e1, e2, e3⟩, ⟨trows, t1, t2, t3⟩⟩ := h
 refine run_card_Copy (vs := cells) (by rw [← row14 hl]; kernel_rfl) ho ?_
 simp only [T_card_Copy]
 refine newbox_den fun r0 => newbox_den fun r1 => ?_
 repeat (first | refine chkN_den ?_ | refine chkV_den ?_)
 refine call_new (Triple.frozenS (c_CloneE e1 (by omega))) ?_
 rintro x H1 _ ⟨hx, rfl⟩ l1
 refine ⟨[x], rfl, ⟨hx.one, trivial⟩, ?_⟩
 repeat (first | refine chkN_den ?_ | refine chkV_den ?_)
 refine call_new (c_CloneT (t1.le l1) (by omega)) fun y H2 O2 hy l2 => ⟨[y], rfl, ⟨hy.one, trivial⟩, ?_⟩
 have ylen := hy.len
 rw [t2] at ylen
 repeat (first | refine chkN_den ?_ | refine chkV_den ?_)
 refine pure_den _ ylen ?_
 refine count_den c.tr.length (fun i H' O' => Heap.le H2 H' ∧ ∃ rows' A, O'.Perm A ∧ OSl Ty_api_Trigger 2 y rows' A ∧ rows'.length = c.tr.length ∧ ∀ j, i ≤ j → rows'[j]? = trows[j]?) ⟨Heap.le_refl _, trows, O2, by simp, hy, t2, fun _ _ => rfl⟩ ?_
 rintro i H' O' hi - ⟨hle, rows', A, hp, hA, hrl, hrest⟩
 refine pure_den _ (lss_eq _ _) (br_den (fun hb => ?_) (fun hb => ?_))
 ·have hlt : i < c.tr.length := by simpa using hb
  have hri : rows'[i]? = some trows[i] := by rw [hrest i (Nat.le_refl _)]; exact List.getElem?_eq_getElem (by omega)
  obtain ⟨er, k1, k2⟩ := t3 i trows[i] c.tr[i] (List.getElem?_eq_getElem (by omega)) (List.getElem?_eq_getElem hlt)
  have hb3 := b3 _ (List.getElem_mem hlt)
  obtain ⟨a, i1, i2, i3, i4⟩ := hA.idx (fun p h => hp.mem_iff.2 h) H' (k := .i64) hri
  obtain ⟨w1, w2⟩ := hA.rows_ok hri
  repeat (first | refine chkN_den ?_ | refine chkV_den ?_ | refine chkP_den rfl ?_)
  refine pure_den _ i1 (load_denR i3 w1 w2 (newbox_den fun r2 => ?_))
  repeat (first | refine chkN_den ?_ | refine chkV_den ?_ | refine chkP_den rfl ?_)
  refine call_new (Triple.frozenS (c_CloneE (k1.le (Heap.le_trans l1 (Heap.le_trans l2 hle))) (by rw [k2]; omega))) ?_
  rintro z H3 _ ⟨hz, rfl⟩ l3
  refine ⟨[z], rfl, ⟨hz.one, trivial⟩, ?_⟩
  obtain ⟨a2, j1, j2⟩ := hA.store (O := [] ++ O') (O2 := []) (by simpa using hp) (k := .i64) hri
  obtain ⟨A', hst, hA'⟩ := j2 1 [z] (by simp [w1]) ⟨hz.one, trivial⟩
  repeat (first | refine chkN_den ?_ | refine chkV_den ?_ | refine chkP_den rfl ?_)
  refine pure_den _ j1 ?_
  repeat (first | refine chkN_den ?_ | refine chkV_den ?_ | refine chkP_den rfl ?_)
  refine ⟨_, hst, ?_⟩
  repeat (first | refine chkN_den ?_ | refine chkV_den ?_ | refine chkP_den rfl ?_)
  refine pure_den _ (add_one (by omega)) (count_cont (by simp [Eqs]) hlt ⟨Heap.le_trans hle l3, _, A', by simp, hA', by simp [hrl], fun j hj => ?_⟩)
  rw [List.getElem?_set_ne (by omega)]
  exact hrest j (by omega)
 ·repeat (first | refine chkN_den ?_ | refine chkV_den ?_ | refine chkP_den rfl ?_)
  refine ret_drop ⟨⟨[g cells 0, g cells 1, g cells 2, g cells 3, g cells 4, g cells 5, g cells 6, g cells 7, g cells 8, g cells 9, g cells 10, x, y, g cells 13], rfl, rfl, ?_, hk, ⟨erows, hx.le (Heap.le_trans l2 hle), e2, e3⟩⟩, rfl⟩
  exact ⟨ones_at ho (by omega), ones_at ho (by omega), ones_at ho (by omega), ones_at ho (by omega), ones_at ho (by omega), ones_at ho (by omega), ones_at ho (by omega), ones_at ho (by omega), ones_at ho (by omega), ones_at ho (by omega), ones_at ho (by omega), hx.one, hy.one, ones_at ho (by omega), trivial⟩
theorem c_objCard {H : Heap} {v : Value} {cs : List Cd} (h : CardsS H v cs) (hli : lightB cs = true) (o : Ob) : Triple PP F_object_Card [v, .agg o.row.toArray] H [] fun r H' O' => CopyC (cdAt cs o.card) r H' ∧ O' = [] := by
 refine run_object_Card (vs := v :: o.row) (by kernel_rfl) ⟨h.one, ob_ones o⟩ ?_
 simp only [T_object_Card]
 refine newbox_den fun r0 => newbox_den fun r1 => ?_
 repeat (first | refine chkN_den ?_ | refine chkV_den ?_)
 refine call_new (c_lookC (O := []) h o) ?_
 rintro _ H1 _ ⟨⟨cells, rfl, k1, k2, k3⟩, rfl⟩ l1
 refine ⟨cells, by simp [Shp.open, k1], k2, ?_⟩
 repeat (first | refine chkN_den ?_ | refine chkV_den ?_)
 have hrow := row14 k1
 refine call_new (c_CardCopy (cells := [g cells 0, g cells 1, g cells 2, g cells 3, g cells 4, g cells 5, g cells 6, g cells 7, g cells 8, g cells 9, g cells 10, g cells 11, g cells 12, g cells 13]) (by rw [hrow]; exact k3) rfl (by rw [hrow]; exact k2) (light_at hli _)) ?_
 rintro _ H2 _ ⟨⟨cells2, rfl, m1, m2, m3, m4⟩, rfl⟩ l2
 refine ⟨cells2, by simp [Shp.open, m1], m2, ?_⟩
 repeat (first | refine chkN_den ?_ | refine chkV_den ?_)
 exact ret_denO ⟨⟨cells2, by rw [← row14 m1]; rfl, m1, m2, m3, m4⟩, rfl⟩
theorem filter_take' {α : Type} {p : α → Bool} {l : List α} {i : Nat} (h : i < l.length) : ((l.take (i + 1)).filter p).length = ((l.take i).filter p).length + if p l[i] then 1 else 0 := by
 rw [List.take_add_one, List.getElem?_eq_getElem h, List.filter_append, List.length_append]
 congr 1
 by_cases hp : p l[i] <;> simp [hp]
theorem eff_idx {H : Heap} {O : Own} {v : Value} {tg : List Int} (h : EffsS H v tg) {i : Nat} (hi : i < tg.length) :
  ∃ a r, evalPure (.idx 5) [v, iV i] = some (.pointer (some a)) ∧ H.read (.pointer (some a)) 5 = some r ∧ r.length = 5 ∧ Ones r ∧ g r 1 = iV tg[i] ∧ Reads H O (ptrAdd (.pointer (some a)) 1) 1 [iV tg[i]] := by
 obtain ⟨rows, h1, h2, h3⟩ := h
 have hlt : i < rows.length := by omega
 obtain ⟨a, k1, k2, k3, k4⟩ := h1.idx (k := .i64) (i := i) (List.getElem?_eq_getElem hlt)
 have hg := h3 i _ _ (List.getElem?_eq_getElem hlt) (List.getElem?_eq_getElem hi)
 obtain ⟨a2, j1, _, j3, _⟩ := (h1.rsl O).idx .i64 i rows[i] (by simp [hlt])
 obtain rfl : a2 = a := by rw [j1] at k1; simpa using k1
 have hr := j3 1 1 (by omega)
 refine ⟨_, _, k1, k2, k3, k4, hg, ?_⟩
 have e : ((rows[i]).drop 1).take 1 = [iV tg[i]] := by
  match hm : rows[i], k3 with
  | [_, b, _, _, _], _ => rw [hm] at hg; simpa [g] using hg
 rw [e] at hr
 exact hr
theorem c_Targets {H : Heap} {O : Own} {v : Value} {tg : List Int} (h : EffsS H v tg) (hb : tg.length ≤ 1000000) : RetO PP F_effect_Targets [v] H O (iV (needsOf tg).length) := by
 refine run_effect_Targets (vs := [v]) (by kernel_rfl) ⟨h.one, trivial⟩ ?_
 simp only [T_effect_Targets]
 refine pure_den _ h.len ?_
 refine countY_den tg.length (fun i x H' O' => O' = O ∧ Heap.le H H' ∧ x = iV (needsOf (tg.take i)).length) ⟨rfl, Heap.le_refl _, rfl⟩ ?_
 rintro i x H' O' hi - ⟨rfl, hle, rfl⟩
 repeat (first | refine chkN_den ?_ | refine chkV_den ?_)
 refine pure_den _ (lss_eq _ _) (br_den (fun hb => ?_) (fun hb => ?_))
 ·have hlt : i < tg.length := by simpa using hb
  obtain ⟨a, r, k1, k2, k3, k4, k5, _⟩ := eff_idx (O := O') (h.le hle) hlt
  repeat (first | refine chkN_den ?_ | refine chkV_den ?_)
  refine pure_den _ k1 (load_denR (reads_frozen k2) k3 k4 (newbox_den fun r0 => ?_))
  repeat (first | refine chkN_den ?_ | refine chkV_den ?_)
  rw [k5]
  refine pure_den _ (neq_eq _ _) ?_
  have hft := filter_take' (p := fun t : Int => t != 0) hlt
  have hfl : ((tg.take i).filter fun t : Int => t != 0).length ≤ tg.length := Nat.le_trans (List.length_filter_le _ _) (by rw [List.length_take]; omega)
  refine br_den (fun hc => ?_) (fun hc => ?_)
  ·have hc : (tg[i] != 0) = true := hc
   rw [if_pos hc] at hft
   refine pure_den _ (add_one (by rw [needsOf]; omega)) (pure_den _ (add_one (by omega)) (countY_cont (by simp [Eqs]) hlt ⟨rfl, hle, ?_⟩))
   rw [needsOf, needsOf, hft]
  ·have hc : (tg[i] != 0) = false := hc
   rw [if_neg (by rw [hc]; simp)] at hft
   refine pure_den _ (add_one (by omega)) (countY_cont (by simp [Eqs]) hlt ⟨rfl, hle, ?_⟩)
   rw [needsOf, needsOf, hft]; rfl
 ·have hge : tg.length ≤ i := by simpa using hb
  rw [List.take_of_length_le hge]
  exact ret_denO ⟨rfl, rfl⟩
end Go.Proofs.Ytbaegnnmedjkmaa
namespace Go.Proofs.Ytbaegnnmedjkmaa
open Go Go.Sx
set_option maxRecDepth 100000
set_option maxHeartbeats 1000000
def obOf (c : Int) : Ob := ⟨0, c, 0, 0, 0, 0, 0, 0, 0, false, false, false⟩
def isSp (k : Int) : Bool := k == 3 || k == 4
def spellP (cs : List Cd) (x : It) : Bool := (isSp (cdAt cs x.card).kind && decide (x.trig < 0)) && decide ((x.tgs.length : Int) ≥ ((needsOf (cdAt cs x.card).tg).length : Int))
theorem light_tg {cs : List Cd} (h : lightB cs = true) (c : Int) : (cdAt cs c).tg.length ≤ 5 := by
 have := light_at h c
 simp only [cdLight, Bool.and_eq_true, Bool.not_eq_true', Bool.or_eq_false_iff, decide_eq_false_iff_not] at this
 omega
theorem c_spell {H : Heap} {v : Value} {cs : List Cd} (h : CardsS H v cs) (hli : lightB cs = true) {row : List Value} {x : It} (hx : ItR H [] row x) : RetO PP F_target_spell [v, .agg row.toArray] H [] (.bool (spellP cs x)) := by
 obtain ⟨s, rfl, hs⟩ := hx
 refine run_target_spell (vs := [v, iV x.player, iV x.id, iV x.card, iV x.trig, s]) (by kernel_rfl) ⟨h.one, rfl, rfl, rfl, rfl, hs.one, trivial⟩ ?_
 simp only [T_target_spell]
 refine newbox_den fun r0 => ?_
 repeat (first | refine chkN_den ?_ | refine chkV_den ?_)
 refine call_new (c_objCard h hli (obOf x.card)) ?_
 rintro _ H1 _ ⟨⟨cells, rfl, k1, k2, k3, k4⟩, rfl⟩ l1
 refine ⟨cells, by simp [Shp.open, k1], k2, newbox_den fun r1 => ?_⟩
 have k3 : g cells 1 = iV (cdAt cs x.card).kind := k3
 have k4 : EffsS H1 (g cells 11) (cdAt cs x.card).tg := k4
 repeat (first | refine chkN_den ?_ | refine chkV_den ?_)
 rw [k3]
 have hsl : evalPure .len [s] = some (iV x.tgs.length) := by have := hs.len; rwa [List.length_map] at this
 repeat (first | refine chkN_den ?_ | refine chkV_den ?_ | refine newbox_den fun _ => ?_ | refine pure_den _ (lss_eq _ _) ?_ | refine pure_den _ (gtr_eq _ _) ?_ | refine pure_den _ (leq_eq _ _) ?_ | refine pure_den _ (geq_eq _ _) ?_ | refine pure_den _ (eql_eq _ _) ?_ | refine pure_den _ (neq_eq _ _) ?_ | refine pure_den _ (pick_and _ _) ?_ | refine pure_den _ (pick_or _ _) ?_ | refine pure_den _ (not_eq' _) ?_ | refine pure_den _ (beql_eq _ _) ?_ | refine pure_den _ (bneq_eq _ _) ?_)
 refine br_den (fun hb => ?_) (fun hb => ?_)
 ·have hb : (isSp (cdAt cs x.card).kind && decide (x.trig < 0)) = true := hb
  repeat (first | refine chkN_den ?_ | refine chkV_den ?_)
  refine pure_den _ hsl ?_
  repeat (first | refine chkN_den ?_ | refine chkV_den ?_)
  refine call_retO (c_Targets k4 (by have := light_tg hli x.card; omega)) rfl ⟨rfl, trivial⟩ fun H2 l2 => ?_
  refine pure_den _ (geq_eq _ _) (ret_denO ⟨?_, rfl⟩)
  rw [spellP, hb, Bool.true_and]
 ·have hb : (isSp (cdAt cs x.card).kind && decide (x.trig < 0)) = false := hb
  refine ret_denO ⟨?_, rfl⟩
  rw [spellP, hb, Bool.false_and]
end Go.Proofs.Ytbaegnnmedjkmaa
