/- What a call of 'known' hands back. -/
import Derived.Test.YtieaihgbjikggaaGreatKN
import Derived.Test.YtieaihgbjikggaaGreatC1
import Derived.Test.YtieaihgbjikggaaGreatM17
import Derived.Test.YtieaihgbjikggaaGreatM4
namespace Go.Proofs.YtieaihgbjikggaaGreat
open Go Go.Sx
set_option maxRecDepth 100000
set_option maxHeartbeats 1000000
end Go.Proofs.YtieaihgbjikggaaGreat
namespace Go.Proofs.YtieaihgbjikggaaGreat
open Go Go.Sx
set_option maxRecDepth 100000
set_option maxHeartbeats 1000000
end Go.Proofs.YtieaihgbjikggaaGreat
namespace Go.Proofs.YtieaihgbjikggaaGreat
open Go Go.Sx
set_option maxRecDepth 100000
set_option maxHeartbeats 1000000
end Go.Proofs.YtieaihgbjikggaaGreat
namespace Go.Proofs.YtieaihgbjikggaaGreat
open Go Go.Sx
set_option maxRecDepth 100000
set_option maxHeartbeats 1000000
end Go.Proofs.YtieaihgbjikggaaGreat
namespace Go.Proofs.YtieaihgbjikggaaGreat
open Go Go.Sx
set_option maxRecDepth 100000
set_option maxHeartbeats 1000000
end Go.Proofs.YtieaihgbjikggaaGreat
namespace Go.Proofs.YtieaihgbjikggaaGreat
open Go Go.Sx
set_option maxRecDepth 100000
set_option maxHeartbeats 1000000
end Go.Proofs.YtieaihgbjikggaaGreat
namespace Go.Proofs.YtieaihgbjikggaaGreat
open Go Go.Sx
set_option maxRecDepth 100000
set_option maxHeartbeats 1000000
theorem row14 {r : List Value} (h : r.length = 14) : ([g r 0, g r 1, g r 2, g r 3, g r 4, g r 5, g r 6, g r 7, g r 8, g r 9, g r 10, g r 11, g r 12, g r 13] : List Value) = r := row_eq h
abbrev zCard : List Value := [.string ⟨#[]⟩, iV 0, iV 0, iV 0, iV 0, iV 0, iV 0, iV 0, iV 0, iV 0, iV 0, .slice none 0 0, .slice none 0 0, iV 0]
end Go.Proofs.YtieaihgbjikggaaGreat
namespace Go.Proofs.YtieaihgbjikggaaGreat
open Go Go.Sx
set_option maxRecDepth 100000
set_option maxHeartbeats 1000000
end Go.Proofs.YtieaihgbjikggaaGreat
namespace Go.Proofs.YtieaihgbjikggaaGreat
open Go Go.Sx
set_option maxRecDepth 100000
set_option maxHeartbeats 1000000
theorem c_CloneE {H : Heap} {v : Value} {l : List (List Value)} (h : Sl H 5 v l) (hb : l.length ≤ 2 ^ 30) : Triple PP F_slices_Clone_api_Effect_api_Effect [v] H [] fun v' H' O' => OSl Ty_api_Effect 5 v' l O' := by
 refine run_slices_Clone_api_Effect_api_Effect (vs := [v]) (by kernel_rfl) ⟨h.one, trivial⟩ ?_
 simp only [T_slices_Clone_api_Effect_api_Effect]
 obtain ⟨a, cap, rfl, h1, h2, h3⟩ := h
 have hev : evalPure (.bin .eql .slice) [.slice a l.length cap, .slice none 0 0] = some (.bool a.isNone) := by cases a <;> rfl
 refine pure_den _ hev (br_den (fun hn => ret_denO ?_) (fun hn => fun r0 => ?_))
 ·have hl : l = [] := by
   by_cases hl : l = []
   ·exact hl
   ·obtain ⟨ad, rfl, _⟩ := h3 hl; cases hn
  subst hl
  exact OSl.nil Ty_api_Effect 5
 ·refine call_append (rows := []) (news := l) (O1 := []) (O2 := []) (e := Ty_api_Effect) (size := 5) (bytes := 40) (by kernel_rfl) (List.Perm.refl _) (.inl ⟨⟨_, rfl⟩, rfl, rfl⟩) (fun Hf hl _ => Sl.le hl ⟨a, cap, rfl, h1, h2, h3⟩) (by simp; omega) (by simp; omega) ?_
  intro v' O1' H' _ ho
  refine ret_denO ?_
  rw [List.append_nil]
  exact ho
theorem c_CloneT {H : Heap} {v : Value} {l : List (List Value)} (h : Sl H 2 v l) (hb : l.length ≤ 2 ^ 30) : Triple PP F_slices_Clone_api_Trigger_api_Trigger [v] H [] fun v' H' O' => OSl Ty_api_Trigger 2 v' l O' := by
 refine run_slices_Clone_api_Trigger_api_Trigger (vs := [v]) (by kernel_rfl) ⟨h.one, trivial⟩ ?_
 simp only [T_slices_Clone_api_Trigger_api_Trigger]
 obtain ⟨a, cap, rfl, h1, h2, h3⟩ := h
 have hev : evalPure (.bin .eql .slice) [.slice a l.length cap, .slice none 0 0] = some (.bool a.isNone) := by cases a <;> rfl
 refine pure_den _ hev (br_den (fun hn => ret_denO ?_) (fun hn => fun r0 => ?_))
 ·have hl : l = [] := by
   by_cases hl : l = []
   ·exact hl
   ·obtain ⟨ad, rfl, _⟩ := h3 hl; cases hn
  subst hl
  exact OSl.nil Ty_api_Trigger 2
 ·refine call_append (rows := []) (news := l) (O1 := []) (O2 := []) (e := Ty_api_Trigger) (size := 2) (bytes := 32) (by kernel_rfl) (List.Perm.refl _) (.inl ⟨⟨_, rfl⟩, rfl, rfl⟩) (fun Hf hl _ => Sl.le hl ⟨a, cap, rfl, h1, h2, h3⟩) (by simp; omega) (by simp; omega) ?_
  intro v' O1' H' _ ho
  refine ret_denO ?_
  rw [List.append_nil]
  exact ho
theorem ones_at {l : List Value} (h : Ones l) {i : Nat} (hi : i < l.length) : (g l i).oneCell' = true := by
 rw [g, List.getD_eq_getElem?_getD, List.getElem?_eq_getElem hi]
 exact ones_mem h _ (List.getElem_mem hi)
end Go.Proofs.YtieaihgbjikggaaGreat
namespace Go.Proofs.YtieaihgbjikggaaGreat
open Go Go.Sx
set_option maxRecDepth 100000
set_option maxHeartbeats 1000000
theorem zCdRX (H : Heap) : CdRX H zCard zCdX := ⟨rfl, Sl.nil H 5, ⟨[], Sl.nil H 2, rfl, fun i r t h => by simp at h⟩⟩
theorem lookX_den {H : Heap} {v : Value} {cs : List CdX} (h : CardsX H v cs) (c : Int) (hn : ¬ (c < 0 ∨ c ≥ (cs.length : Int))) :
  ∃ a r, evalPure (.idx 14) [v, iV c] = some (.pointer (some a)) ∧ H.read (.pointer (some a)) 14 = some r ∧ r.length = 14 ∧ Ones r ∧ CdRX H r (cdX cs c) := by
 obtain ⟨rows, h1, h2, h3⟩ := h
 have hlt : c.toNat < rows.length := by omega
 obtain ⟨a, k1, k2, k3, k4⟩ := h1.idx (k := .i64) (i := c.toNat) (List.getElem?_eq_getElem hlt)
 have hk : cs[c.toNat]? = some (cdX cs c) := by
  rw [cdX, if_neg hn, List.getD_eq_getElem?_getD, List.getElem?_eq_getElem (by omega)]; rfl
 refine ⟨a, _, ?_, k2, k3, k4, h3 c.toNat _ _ (List.getElem?_eq_getElem hlt) hk⟩
 rw [show iV c = iV (c.toNat : Int) by rw [Int.toNat_of_nonneg (by omega)]]; exact k1
def LookX (cs : List CdX) (c : Int) (v : Value) (H : Heap) : Prop := ∃ cells : List Value, v = .agg cells.toArray ∧ cells.length = 14 ∧ Ones cells ∧ CdRX H cells (cdX cs c)
theorem c_lookX {H : Heap} {O : Own} {v : Value} {cs : List CdX} (h : CardsX H v cs) (o : Ob) : Triple PP F_object_look [v, .agg o.row.toArray] H O fun r H' O' => LookX cs o.card r H' ∧ O' = O := by
 refine run_object_look (vs := v :: o.row) (by kernel_rfl) ⟨h.one, ob_ones o⟩ ?_
 simp only [T_object_look]
 refine newbox_den fun r0 => newbox_den fun r1 => ?_
 repeat (first | refine chkN_den ?_ | refine chkV_den ?_)
 refine pure_den _ (lss_eq _ _) ?_
 repeat (first | refine chkN_den ?_ | refine chkV_den ?_)
 refine pure_den _ h.len ?_
 repeat (first | refine chkN_den ?_ | refine chkV_den ?_ | refine newbox_den fun _ => ?_ | refine pure_den _ (lss_eq _ _) ?_ | refine pure_den _ (gtr_eq _ _) ?_ | refine pure_den _ (leq_eq _ _) ?_ | refine pure_den _ (geq_eq _ _) ?_ | refine pure_den _ (eql_eq _ _) ?_ | refine pure_den _ (neq_eq _ _) ?_ | refine pure_den _ (pick_and _ _) ?_ | refine pure_den _ (pick_or _ _) ?_ | refine pure_den _ (not_eq' _) ?_ | refine pure_den _ (beql_eq _ _) ?_ | refine pure_den _ (bneq_eq _ _) ?_)
 refine br_den (fun hb => ?_) (fun hb => ?_)
 ·have hb : (decide (o.card < 0) || decide (o.card ≥ (cs.length : Int))) = true := hb
  repeat (first | refine chkN_den ?_ | refine chkV_den ?_)
  refine ret_denO ⟨⟨zCard, rfl, rfl, ⟨rfl, rfl, rfl, rfl, rfl, rfl, rfl, rfl, rfl, rfl, rfl, rfl, rfl, rfl, trivial⟩, ?_⟩, rfl⟩
  rw [cdX, if_pos (by simpa using hb)]; exact zCdRX H
 ·have hb : (decide (o.card < 0) || decide (o.card ≥ (cs.length : Int))) = false := hb
  obtain ⟨a, r, k1, k2, k3, k4, k5⟩ := lookX_den h o.card (by simpa [Bool.or_eq_false_iff] using hb)
  repeat (first | refine chkN_den ?_ | refine chkV_den ?_)
  refine pure_den _ k1 (load_denR (reads_frozen k2) k3 k4 ?_)
  repeat (first | refine chkN_den ?_ | refine chkV_den ?_)
  exact ret_denO ⟨⟨r, by rw [← row14 k3]; rfl, k3, k4, k5⟩, rfl⟩
theorem r_CardX {H : Heap} {O : Own} {v : Value} {cs : List CdX} (h : CardsX H v cs) (o : Ob) : Triple PP F_zeitnotref14_Card [v, .agg o.row.toArray] H O fun r H' O' => LookX cs o.card r H' ∧ O' = O := by
 refine run_zeitnotref14_Card (vs := v :: o.row) (by kernel_rfl) ⟨h.one, ob_ones o⟩ ?_
 simp only [T_zeitnotref14_Card]
 refine newbox_den fun r0 => newbox_den fun r1 => ?_
 repeat (first | refine chkN_den ?_ | refine chkV_den ?_)
 refine pure_den _ (lss_eq _ _) ?_
 repeat (first | refine chkN_den ?_ | refine chkV_den ?_)
 refine pure_den _ h.len ?_
 repeat (first | refine chkN_den ?_ | refine chkV_den ?_ | refine newbox_den fun _ => ?_ | refine pure_den _ (lss_eq _ _) ?_ | refine pure_den _ (gtr_eq _ _) ?_ | refine pure_den _ (leq_eq _ _) ?_ | refine pure_den _ (geq_eq _ _) ?_ | refine pure_den _ (eql_eq _ _) ?_ | refine pure_den _ (neq_eq _ _) ?_ | refine pure_den _ (pick_and _ _) ?_ | refine pure_den _ (pick_or _ _) ?_ | refine pure_den _ (not_eq' _) ?_ | refine pure_den _ (beql_eq _ _) ?_ | refine pure_den _ (bneq_eq _ _) ?_)
 refine br_den (fun hb => ?_) (fun hb => ?_)
 ·have hb : (decide (o.card < 0) || decide (o.card ≥ (cs.length : Int))) = true := hb
  repeat (first | refine chkN_den ?_ | refine chkV_den ?_)
  refine ret_denO ⟨⟨zCard, rfl, rfl, ⟨rfl, rfl, rfl, rfl, rfl, rfl, rfl, rfl, rfl, rfl, rfl, rfl, rfl, rfl, trivial⟩, ?_⟩, rfl⟩
  rw [cdX, if_pos (by simpa using hb)]; exact zCdRX H
 ·have hb : (decide (o.card < 0) || decide (o.card ≥ (cs.length : Int))) = false := hb
  obtain ⟨a, r, k1, k2, k3, k4, k5⟩ := lookX_den h o.card (by simpa [Bool.or_eq_false_iff] using hb)
  repeat (first | refine chkN_den ?_ | refine chkV_den ?_)
  refine pure_den _ k1 (load_denR (reads_frozen k2) k3 k4 ?_)
  repeat (first | refine chkN_den ?_ | refine chkV_den ?_)
  exact ret_denO ⟨⟨r, by rw [← row14 k3]; rfl, k3, k4, k5⟩, rfl⟩
/-- Owned triggers: their effects are owned, too. -/
def OTrs (v : Value) (trs : List (List Eff)) (O : Own) : Prop := ∃ rows A Ts, O.Perm (A ++ List.flatten Ts) ∧ OSl Ty_api_Trigger 2 v rows A ∧ rows.length = trs.length ∧ Ts.length = trs.length ∧
 ∀ (i : Nat) (r : List Value) (l : List Eff) (T : Own), rows[i]? = some r → trs[i]? = some l → Ts[i]? = some T → OSl Ty_api_Effect 5 (g r 1) (efRows l) T
/-- What a copy of a card hands back. -/
def CopyX (c : CdX) (v : Value) (O : Own) : Prop := ∃ (cells : List Value) (A B : Own), v = .agg cells.toArray ∧ cells.length = 14 ∧ Ones cells ∧ g cells 1 = iV c.kind ∧ OSl Ty_api_Effect 5 (g cells 11) (efRows c.effs) A ∧ OTrs (g cells 12) c.trs B ∧ O.Perm (A ++ B)
theorem c_CardCopyX {H : Heap} {cells : List Value} {c : CdX} (h : CdRX H cells c) (hl : cells.length = 14) (ho : Ones cells) (hli : cdLight c.base = true) :
  Triple PP F_card_Copy [.agg cells.toArray] H [] fun r _ O' => CopyX c r O' := by
 simp only [cdLight, CdX.base, Bool.and_eq_true, Bool.not_eq_true', Bool.or_eq_false_iff, decide_eq_false_iff_not, List.all_eq_true, List.length_map, List.mem_map, forall_exists_index, and_imp, forall_apply_eq_imp_iff₂] at hli
 obtain ⟨⟨b1, b2⟩, b3⟩ := hli
 obtain ⟨hk, he, ⟨trows, t1, t2, t3⟩⟩ := h
 refine run_card_Copy (vs := cells) (by rw [← row14 hl]; kernel_rfl) ho ?_
 simp only [T_card_Copy]
 refine newbox_den fun r0 => newbox_den fun r1 => ?_
 repeat (first | refine chkN_den ?_ | refine chkV_den ?_)
 refine call_new (c_CloneE he (by rw [efRows_len]; omega)) fun x H1 O1 hx l1 => ⟨[x], rfl, ⟨hx.one, trivial⟩, ?_⟩
 repeat (first | refine chkN_den ?_ | refine chkV_den ?_)
 refine call_new (c_CloneT (t1.le l1) (by omega)) fun y H2 O2 hy l2 => ⟨[y], rfl, ⟨hy.one, trivial⟩, ?_⟩
 have ylen := hy.len
 rw [t2] at ylen
 repeat (first | refine chkN_den ?_ | refine chkV_den ?_)
 refine pure_den _ ylen ?_
 refine count_den c.trs.length (fun i H' O' => Heap.le H2 H' ∧ ∃ rows' A Ts, O'.Perm (A ++ (List.flatten Ts ++ O1)) ∧ OSl Ty_api_Trigger 2 y rows' A ∧ rows'.length = c.trs.length ∧ Ts.length = i ∧
  (∀ (j : Nat) (r : List Value) (l : List Eff) (T : Own), rows'[j]? = some r → c.trs[j]? = some l → Ts[j]? = some T → OSl Ty_api_Effect 5 (g r 1) (efRows l) T) ∧ ∀ j, i ≤ j → rows'[j]? = trows[j]?)
  ⟨Heap.le_refl _, trows, O2, [], by simp, hy, t2, rfl, fun j r l T _ _ h => by simp at h, fun _ _ => rfl⟩ ?_
 rintro i H' O' hi - ⟨hle, rows', A, Ts, hp, hA, hrl, htl, hspec, hrest⟩
 refine pure_den _ (lss_eq _ _) (br_den (fun hb => ?_) (fun hb => ?_))
 ·have hlt : i < c.trs.length := by simpa using hb
  have hri : rows'[i]? = some trows[i] := by rw [hrest i (Nat.le_refl _)]; exact List.getElem?_eq_getElem (by omega)
  have k1 := t3 i trows[i] c.trs[i] (List.getElem?_eq_getElem (by omega)) (List.getElem?_eq_getElem hlt)
  have hb3 := b3 _ (List.getElem_mem hlt)
  obtain ⟨a, i1, i2, i3, i4⟩ := hA.idx (fun p h => hp.mem_iff.2 (List.mem_append_left _ h)) H' (k := .i64) hri
  obtain ⟨w1, w2⟩ := hA.rows_ok hri
  repeat (first | refine chkN_den ?_ | refine chkV_den ?_ | refine chkP_den rfl ?_)
  refine pure_den _ i1 (load_denR i3 w1 w2 (newbox_den fun r2 => ?_))
  repeat (first | refine chkN_den ?_ | refine chkV_den ?_ | refine chkP_den rfl ?_)
  refine call_new (c_CloneE (k1.le (Heap.le_trans l1 (Heap.le_trans l2 hle))) (by rw [efRows_len]; omega)) fun z H3 T hz l3 => ⟨[z], rfl, ⟨hz.one, trivial⟩, ?_⟩
  have hp2 : (T ++ O').Perm (A ++ (T ++ (List.flatten Ts ++ O1))) := (hp.append_left T).trans (List.perm_append_comm_assoc _ _ _)
  obtain ⟨a2, j1, j2⟩ := hA.store hp2 (k := .i64) hri
  obtain ⟨A', hst, hA'⟩ := j2 1 [z] (by simp [w1]) ⟨hz.one, trivial⟩
  have hsp : g (splice trows[i] 1 [z]) 1 = z := by
   match hm : trows[i], w1 with
   | [_, _], _ => rfl
  repeat (first | refine chkN_den ?_ | refine chkV_den ?_ | refine chkP_den rfl ?_)
  refine pure_den _ j1 ?_
  repeat (first | refine chkN_den ?_ | refine chkV_den ?_ | refine chkP_den rfl ?_)
  refine ⟨_, hst, ?_⟩
  repeat (first | refine chkN_den ?_ | refine chkV_den ?_ | refine chkP_den rfl ?_)
  refine pure_den _ (add_one (by omega)) (count_cont (by simp [Eqs]) hlt ⟨Heap.le_trans hle l3, _, A', Ts ++ [T], ?_, hA', by simp [hrl], by simp [htl], ?_, ?_⟩)
  ·refine List.Perm.append_left A' ?_
   rw [List.flatten_append, ← List.append_assoc]
   refine List.Perm.append_right O1 ?_
   simpa using List.perm_append_comm
  ·intro j r x T' h1 h2 h3
   by_cases hj : j = i
   ·subst hj
    rw [List.getElem?_set_self (by omega)] at h1
    rw [List.getElem?_eq_getElem hlt] at h2
    rw [List.getElem?_append_right (by omega), htl, Nat.sub_self] at h3
    simp only [Option.some.injEq, List.getElem?_cons_zero] at h1 h2 h3
    subst h1; subst h2; subst h3
    rw [hsp]; exact hz
   ·rw [List.getElem?_set_ne (by omega)] at h1
    have hjlt : j < Ts.length := by
     have := (List.getElem?_eq_some_iff.1 h3).1
     simp at this; omega
    rw [List.getElem?_append_left hjlt] at h3
    exact hspec j r x T' h1 h2 h3
  ·intro j hj
   rw [List.getElem?_set_ne (by omega)]
   exact hrest j (by omega)
 ·have hie : i = c.trs.length := by
   have : ¬ ((i : Int) < (c.trs.length : Int)) := by simpa using hb
   omega
  subst hie
  repeat (first | refine chkN_den ?_ | refine chkV_den ?_ | refine chkP_den rfl ?_)
  refine ret_denO ⟨[g cells 0, g cells 1, g cells 2, g cells 3, g cells 4, g cells 5, g cells 6, g cells 7, g cells 8, g cells 9, g cells 10, x, y, g cells 13], O1, A ++ List.flatten Ts, rfl, rfl, ?_, hk, hx, ⟨rows', A, Ts, List.Perm.refl _, hA, hrl, htl, hspec⟩, ?_⟩
  ·exact ⟨ones_at ho (by omega), ones_at ho (by omega), ones_at ho (by omega), ones_at ho (by omega), ones_at ho (by omega), ones_at ho (by omega), ones_at ho (by omega), ones_at ho (by omega), ones_at ho (by omega), ones_at ho (by omega), ones_at ho (by omega), hx.one, hy.one, ones_at ho (by omega), trivial⟩
  ·refine hp.trans ?_
   rw [← List.append_assoc]
   exact List.perm_append_comm
theorem c_objCardX {H : Heap} {v : Value} {cs : List CdX} (h : CardsX H v cs) (hli : lightB (cs.map CdX.base) = true) (o : Ob) : Triple PP F_object_Card [v, .agg o.row.toArray] H [] fun r _ O' => CopyX (cdX cs o.card) r O' := by
 refine run_object_Card (vs := v :: o.row) (by kernel_rfl) ⟨h.one, ob_ones o⟩ ?_
 simp only [T_object_Card]
 refine newbox_den fun r0 => newbox_den fun r1 => ?_
 repeat (first | refine chkN_den ?_ | refine chkV_den ?_)
 refine call_new (c_lookX (O := []) h o) ?_
 rintro _ H1 _ ⟨⟨cells, rfl, k1, k2, k3⟩, rfl⟩ l1
 refine ⟨cells, by simp [Shp.open, k1], k2, ?_⟩
 repeat (first | refine chkN_den ?_ | refine chkV_den ?_)
 have hrow := row14 k1
 have hlc : cdLight (cdX cs o.card).base = true := by rw [cdX_base]; exact light_at hli _
 refine call_new (c_CardCopyX (cells := [g cells 0, g cells 1, g cells 2, g cells 3, g cells 4, g cells 5, g cells 6, g cells 7, g cells 8, g cells 9, g cells 10, g cells 11, g cells 12, g cells 13]) (by rw [hrow]; exact k3) rfl (by rw [hrow]; exact k2) hlc) ?_
 rintro _ H2 O2 ⟨cells2, A, B, rfl, m1, m2, m3⟩ l2
 refine ⟨cells2, by simp [Shp.open, m1], m2, ?_⟩
 repeat (first | refine chkN_den ?_ | refine chkV_den ?_)
 refine ret_permD (O' := O2) (by simp) ⟨cells2, A, B, by rw [← row14 m1]; rfl, m1, m2, m3⟩
end Go.Proofs.YtieaihgbjikggaaGreat
namespace Go.Proofs.YtieaihgbjikggaaGreat
open Go Go.Sx
set_option maxRecDepth 100000
set_option maxHeartbeats 1000000
def obOf (c : Int) : Ob := ⟨0, c, 0, 0, 0, 0, 0, 0, 0, false, false, false⟩
end Go.Proofs.YtieaihgbjikggaaGreat
