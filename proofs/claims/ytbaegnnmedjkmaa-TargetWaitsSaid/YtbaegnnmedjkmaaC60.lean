/- TargetWaits is true. -/
import Derived.Test.YtbaegnnmedjkmaaC51
import Derived.Test.YtbaegnnmedjkmaaBTW
namespace Go.Proofs.Ytbaegnnmedjkmaa
open Go Go.Sx
set_option maxRecDepth 100000
set_option maxHeartbeats 1000000
theorem waits_0 {H : Heap} {n h : Int} (hn : 0 ≤ n ∧ n ≤ 255) (hh : 0 ≤ h ∧ h ≤ 255) (k : Int) :
  Triple PP F_zeitnotlaw16_TargetWaits [.int .u8 n, .int .u8 h, iV k, .int .u8 0] H [] fun r _ O' => r = .bool true ∧ O' = [] := by
 refine run_waits_0 (vs := [.int .u8 n, .int .u8 h, iV k, .int .u8 0]) (by kernel_rfl) ⟨rfl, rfl, rfl, rfl, trivial⟩ rfl ?_
 simp only [T_waits_0]
 refine pure_den _ (gtr_u _ _) ?_
 repeat (first | refine chkN_den ?_ | refine chkV_den ?_ | refine chkP_den rfl ?_)
 refine pure_den _ (gtr_u _ _) ?_
 repeat (first | refine chkN_den ?_ | refine chkV_den ?_ | refine chkP_den rfl ?_)
 refine pure_den _ (pick_or _ _) ?_
 repeat (first | refine chkN_den ?_ | refine chkV_den ?_ | refine chkP_den rfl ?_)
 refine pure_den _ (pick_or _ _) (br_den (fun _ => ?_) (fun hc => ?_))
 ·repeat (first | refine chkN_den ?_ | refine chkV_den ?_ | refine chkP_den rfl ?_)
  exact call_retO (c_knownT _ []) rfl ⟨rfl, trivial⟩ fun _ _ => ret_denO ⟨rfl, rfl⟩
 have hc : ((decide (n > 4) || decide (h > 4)) || false) = false := hc
 have hn4 : n ≤ 4 := by simp at hc; omega
 have hh4 : h ≤ 4 := by simp at hc; omega
 obtain ⟨n, rfl⟩ : ∃ m : Nat, n = m := ⟨n.toNat, by omega⟩
 obtain ⟨h, rfl⟩ : ∃ m : Nat, h = m := ⟨h.toNat, by omega⟩
 replace hn4 : n ≤ 4 := by omega
 replace hh4 : h ≤ 4 := by omega
 repeat (first | refine chkN_den ?_ | refine chkV_den ?_ | refine chkP_den rfl ?_)
 refine newbox_den fun r0 => ?_
 repeat (first | refine chkN_den ?_ | refine chkV_den ?_ | refine chkP_den rfl ?_)
 refine loop_den (fun vs H' O' => ∃ (i : Nat) (x : Value), vs = [iV i, x] ∧ i ≤ n ∧ Heap.le H H' ∧ OSl Ty_api_Effect 5 x (efRows (List.replicate i ef1)) O') (fun vs _ _ => match g vs 0 with | .int _ j => n - j.toNat | _ => 0) ⟨0, _, rfl, Nat.zero_le _, Heap.le_refl _, OSl.nil _ _⟩ ?_
 rintro _ H1 O1 _ _ _ ⟨i, x, rfl, hi, hle, hx⟩
 repeat (first | refine chkN_den ?_ | refine chkV_den ?_ | refine chkP_den rfl ?_)
 refine pure_den _ (conv_w (n := (n : Int)) ⟨by omega, by omega⟩) ?_
 repeat (first | refine chkN_den ?_ | refine chkV_den ?_ | refine chkP_den rfl ?_)
 refine pure_den _ (lss_eq _ _) (br_den (fun hb => ?_) (fun hb => ?_))
 ·have hlt : i < n := by simpa using hb
  repeat (first | refine chkN_den ?_ | refine chkV_den ?_ | refine chkP_den rfl ?_)
  refine newbox_den fun r1 => ?_
  repeat (first | refine chkN_den ?_ | refine chkV_den ?_ | refine chkP_den rfl ?_)
  refine call_append (rows := efRows (List.replicate i ef1)) (news := [ef1.row]) (O1 := O1) (O2 := []) (e := Ty_api_Effect) (size := 5) (bytes := 40) (by kernel_rfl) (by simp) hx (fun Hf _ hf => Sl.block1 (hf _ List.mem_cons_self) rfl (ef_ones ef1)) (by rw [efRows_len, List.length_replicate, List.length_singleton]; omega) (by rw [efRows_len, List.length_replicate, List.length_singleton]; omega) ?_
  intro v' A' H6 l6 hA'
  repeat (first | refine chkN_den ?_ | refine chkV_den ?_ | refine chkP_den rfl ?_)
  refine pure_den _ (add_one (by omega)) (cont_den (by simp [Eqs, E]) ⟨i + 1, v', rfl, hlt, Heap.le_trans hle l6, ?_⟩ ?_)
  ·have e : efRows (List.replicate (i + 1) ef1) = efRows (List.replicate i ef1) ++ [ef1.row] := by rw [List.replicate_succ']; simp [efRows]
   rw [List.append_nil, e]; exact hA'
  ·show n - ((i + 1 : Nat) : Int).toNat < n - (i : Int).toNat
   omega
 have e : n = i := by have := of_decide_eq_false hb; omega
 subst e
 repeat (first | refine chkN_den ?_ | refine chkV_den ?_ | refine chkP_den rfl ?_)
 refine newbox_den fun r2 => ?_
 repeat (first | refine chkN_den ?_ | refine chkV_den ?_ | refine chkP_den rfl ?_)
 refine newbox_den fun r3 => ?_
 repeat (first | refine chkN_den ?_ | refine chkV_den ?_ | refine chkP_den rfl ?_)
 refine call_gk (B := []) (gz_one hx (by simp)) fun Hf lf hf hxf => ⟨_, new5 (Sl.block (cs := [iV 0, iV 1, iV 1, iV 1, iV 1]) (hf _ List.mem_cons_self) ⟨rfl, rfl, rfl, rfl, rfl, trivial⟩ rfl (by omega)) (Sl.block (cs := []) (hf _ (List.mem_cons_of_mem _ List.mem_cons_self)) trivial rfl (by omega)), ?_⟩
 rintro _ H2 _ ⟨⟨w, rfl, hb⟩, rfl⟩ l2
 refine ⟨boardC w (newBd 5 [0, 1, 1, 1, 1] []) ++ [iV 0], rfl, ones_app (boardC_ones (hb.r [])) ⟨rfl, trivial⟩, ?_⟩
 have hxf := hxf.le l2
 repeat (first | refine chkN_den ?_ | refine chkV_den ?_ | refine chkP_den rfl ?_)
 refine newbox_den fun r4 => ?_
 repeat (first | refine chkN_den ?_ | refine chkV_den ?_ | refine chkP_den rfl ?_)
 refine pure_den _ (neq_eq 0 0) (br_den (fun hd => by cases hd) (fun _ => ?_))
 repeat (first | refine chkN_den ?_ | refine chkV_den ?_ | refine chkP_den rfl ?_)
 refine newbox_den fun r5 => ?_
 repeat (first | refine chkN_den ?_ | refine chkV_den ?_ | refine chkP_den rfl ?_)
 refine make_two (t := 58) (elem := Ty_api_Target) (z := iV 0) (z' := iV 0) Try.underlying58 (by kernel_rfl) (by kernel_rfl) (by kernel_rfl) rfl rfl (n := h) (by omega) fun sT H3 l3 hsT => ?_
 have hxf := hxf.le l3
 have hb := hb.le l3
 repeat (first | refine chkN_den ?_ | refine chkV_den ?_ | refine chkP_den rfl ?_)
 refine newbox_den fun r6 => ?_
 repeat (first | refine chkN_den ?_ | refine chkV_den ?_ | refine chkP_den rfl ?_)
 refine pure_den _ (geq_u _ _) ?_
 repeat (first | refine chkN_den ?_ | refine chkV_den ?_ | refine chkP_den rfl ?_)
 refine pure_den _ (eql_eq k 3) ?_
 repeat (first | refine chkN_den ?_ | refine chkV_den ?_ | refine chkP_den rfl ?_)
 refine pure_den _ (eql_eq k 4) ?_
 repeat (first | refine chkN_den ?_ | refine chkV_den ?_ | refine chkP_den rfl ?_)
 refine pure_den _ (pick_or _ _) ?_
 repeat (first | refine chkN_den ?_ | refine chkV_den ?_ | refine chkP_den rfl ?_)
 refine pure_den _ (pick_and _ _) (br_den (fun ho => ?_) (fun ho => ?_))
 ·have ho : okW k n h = true := ho
  repeat (first | refine chkN_den ?_ | refine chkV_den ?_ | refine chkP_den rfl ?_)
  refine newbox_den fun rX => ?_
  repeat (first | refine chkN_den ?_ | refine chkV_den ?_ | refine chkP_den rfl ?_)
  refine call_append (rows := []) (news := [encT 1]) (O1 := []) (O2 := []) (e := Ty_api_Target) (size := 2) (bytes := 16) (by kernel_rfl) (by simp) (OSl.nil _ _) (fun Hf _ hf => Sl.block1 (hf _ List.mem_cons_self) rfl ⟨rfl, rfl, trivial⟩) (by simp) (by simp) ?_
  intro W B H4 l4 hW'
  have hW : OSl Ty_api_Target 2 W [encT 1] B := hW'
  have hxf := hxf.le l4
  have hb := hb.le l4
  have hsT := hsT.le l4
  have eT : ∀ {p : Int}, p = 0 ∨ p = 1 → listT (cdsW k n) (bdW 0 h) p 6 = tgs [1] := fun _ => by
   rw [show ∀ p, listT (cdsW k n) (bdW 0 h) p 6 = tgs (spellsT (cdsW k n) (bdW 0 h)) from fun _ => rfl, spellsW (by omega), if_pos ho]; rfl
  have eL : ∀ {p : Int}, p = 0 ∨ p = 1 → ListT (cdsW k n) (bdW 0 h) p 6 = tgs [1] := fun hp => by
   rw [listW (by omega) hh4 k n hp, if_pos ho]; rfl
  have hst : (bdW 0 h).stack.length ≤ 1000000 := by simp [bdW, itsW]
  repeat (first | refine chkN_den ?_ | refine chkV_den ?_ | refine chkP_den rfl ?_)
  refine call_gk (B := []) (gz_one hW (by simp)) fun Hf lf hf hphi => ?_
  have hWf := hphi
  have hcards : CardsS Hf (.slice (some ⟨r0, 0, none⟩) 2 2) (cdsW k n) := cardsW (hf _ List.mem_cons_self) (hxf.le lf)
  have hSf : Sl Hf 5 (.slice (some ⟨r6, 0, none⟩) 1 1) (stRows sT 0) := Sl.block1 (hf _ (List.mem_cons_of_mem _ (List.mem_cons_of_mem _ List.mem_cons_self))) rfl ⟨rfl, rfl, rfl, rfl, hsT.one, trivial⟩
  have hbd := bdsW (c := 0) (h := h) (hb.le lf) (hf _ (List.mem_cons_of_mem _ List.mem_cons_self)) (by omega) hSf (hsT.le lf)
  have hwv : Sl Hf 2 W (tRows (tgs [1])) := hWf
  refine ⟨_, c_TList hcards (lightW hn4) hbd hst 0 6, ?_⟩
  rintro x1 H6 _ ⟨hx1, rfl⟩ l6
  refine ⟨[x1], rfl, ⟨hx1.one, trivial⟩, ?_⟩
  rw [eL (.inl rfl)] at hx1
  repeat (first | refine chkN_den ?_ | refine chkV_den ?_ | refine chkP_den rfl ?_)
  refine call_new0 (r_TSame (O := []) hx1 (hwv.le l6)) rfl ⟨rfl, trivial⟩ fun H7 l7 => pure_den _ (not_eq' _) (br_den (fun hd => by simp at hd) (fun _ => ?_))
  have hcards := hcards.le (Heap.le_trans l6 l7)
  have hbd := hbd.le (Heap.le_trans l6 l7)
  have hwv := hwv.le (Heap.le_trans l6 l7)
  repeat (first | refine chkN_den ?_ | refine chkV_den ?_ | refine chkP_den rfl ?_)
  refine newbox_den fun rA => ?_
  repeat (first | refine chkN_den ?_ | refine chkV_den ?_ | refine chkP_den rfl ?_)
  refine call_newF (shp := .one) (r := .bool (canT (cdsW k n) (bdW 0 h) 0 [6])) (vs := [.bool (canT (cdsW k n) (bdW 0 h) 0 [6])]) (fun Hg lg hg => c_Can (hcards.le lg) (lightW hn4) (hbd.le lg) hst 0 (eff_block (hg _ List.mem_cons_self)) (by simp)) rfl ⟨rfl, trivial⟩ fun H8 l8 => ?_
  rw [can_one (bdW_valid (by omega) hh4) (.inl rfl) (by decide), eT (.inl rfl)]
  have hcards := hcards.le l8
  have hbd := hbd.le l8
  have hwv := hwv.le l8
  have wlen := hwv.len
  rw [tRows_len] at wlen
  repeat (first | refine chkN_den ?_ | refine chkV_den ?_ | refine chkP_den rfl ?_)
  refine pure_den _ wlen ?_
  repeat (first | refine chkN_den ?_ | refine chkV_den ?_ | refine chkP_den rfl ?_)
  refine pure_den _ (gtr_eq _ _) ?_
  repeat (first | refine chkN_den ?_ | refine chkV_den ?_ | refine chkP_den rfl ?_)
  refine pure_den _ (bneq_eq _ _) (br_den (fun hd => by simp at hd) (fun _ => ?_))
  repeat (first | refine chkN_den ?_ | refine chkV_den ?_ | refine chkP_den rfl ?_)
  refine call_new (c_TList hcards (lightW hn4) hbd hst 1 6) ?_
  rintro x2 H9 _ ⟨hx2, rfl⟩ l9
  refine ⟨[x2], rfl, ⟨hx2.one, trivial⟩, ?_⟩
  rw [eL (.inr rfl)] at hx2
  repeat (first | refine chkN_den ?_ | refine chkV_den ?_ | refine chkP_den rfl ?_)
  refine call_new0 (r_TSame (O := []) hx2 (hwv.le l9)) rfl ⟨rfl, trivial⟩ fun H10 l10 => pure_den _ (not_eq' _) (br_den (fun hd => by simp at hd) (fun _ => ?_))
  have hcards := hcards.le (Heap.le_trans l9 l10)
  have hbd := hbd.le (Heap.le_trans l9 l10)
  have hwv := hwv.le (Heap.le_trans l9 l10)
  repeat (first | refine chkN_den ?_ | refine chkV_den ?_ | refine chkP_den rfl ?_)
  refine newbox_den fun rB => ?_
  repeat (first | refine chkN_den ?_ | refine chkV_den ?_ | refine chkP_den rfl ?_)
  refine call_newF (shp := .one) (r := .bool (canT (cdsW k n) (bdW 0 h) 1 [6])) (vs := [.bool (canT (cdsW k n) (bdW 0 h) 1 [6])]) (fun Hg lg hg => c_Can (hcards.le lg) (lightW hn4) (hbd.le lg) hst 1 (eff_block (hg _ List.mem_cons_self)) (by simp)) rfl ⟨rfl, trivial⟩ fun H11 l11 => ?_
  rw [can_one (bdW_valid (by omega) hh4) (.inr rfl) (by decide), eT (.inr rfl)]
  repeat (first | refine chkN_den ?_ | refine chkV_den ?_ | refine chkP_den rfl ?_)
  refine pure_den _ wlen ?_
  repeat (first | refine chkN_den ?_ | refine chkV_den ?_ | refine chkP_den rfl ?_)
  refine pure_den _ (gtr_eq _ _) ?_
  repeat (first | refine chkN_den ?_ | refine chkV_den ?_ | refine chkP_den rfl ?_)
  refine pure_den _ (bneq_eq _ _) (br_den (fun hd => by simp at hd) (fun _ => ?_))
  repeat (first | refine chkN_den ?_ | refine chkV_den ?_ | refine chkP_den rfl ?_)
  exact call_retO (c_knownT _ _) rfl ⟨rfl, trivial⟩ fun _ _ => ret_drop ⟨rfl, rfl⟩
 ·have ho : okW k n h = false := ho
  have eT : ∀ {p : Int}, p = 0 ∨ p = 1 → listT (cdsW k n) (bdW 0 h) p 6 = tgs [] := fun _ => by
   rw [show ∀ p, listT (cdsW k n) (bdW 0 h) p 6 = tgs (spellsT (cdsW k n) (bdW 0 h)) from fun _ => rfl, spellsW (by omega), if_neg (by rw [ho]; simp)]; rfl
  have eL : ∀ {p : Int}, p = 0 ∨ p = 1 → ListT (cdsW k n) (bdW 0 h) p 6 = tgs [] := fun hp => by
   rw [listW (by omega) hh4 k n hp, if_neg (by rw [ho]; simp)]; rfl
  have hst : (bdW 0 h).stack.length ≤ 1000000 := by simp [bdW, itsW]
  repeat (first | refine chkN_den ?_ | refine chkV_den ?_ | refine chkP_den rfl ?_)
  refine call_gk (B := []) gz_keep fun Hf lf hf hphi => ?_

  have hcards : CardsS Hf (.slice (some ⟨r0, 0, none⟩) 2 2) (cdsW k n) := cardsW (hf _ List.mem_cons_self) (hxf.le lf)
  have hSf : Sl Hf 5 (.slice (some ⟨r6, 0, none⟩) 1 1) (stRows sT 0) := Sl.block1 (hf _ (List.mem_cons_of_mem _ (List.mem_cons_of_mem _ List.mem_cons_self))) rfl ⟨rfl, rfl, rfl, rfl, hsT.one, trivial⟩
  have hbd := bdsW (c := 0) (h := h) (hb.le lf) (hf _ (List.mem_cons_of_mem _ List.mem_cons_self)) (by omega) hSf (hsT.le lf)
  have hwv : Sl Hf 2 (.slice none 0 0) (tRows (tgs [])) := Sl.nil Hf 2
  refine ⟨_, c_TList hcards (lightW hn4) hbd hst 0 6, ?_⟩
  rintro x1 H6 _ ⟨hx1, rfl⟩ l6
  refine ⟨[x1], rfl, ⟨hx1.one, trivial⟩, ?_⟩
  rw [eL (.inl rfl)] at hx1
  repeat (first | refine chkN_den ?_ | refine chkV_den ?_ | refine chkP_den rfl ?_)
  refine call_new0 (r_TSame (O := []) hx1 (hwv.le l6)) rfl ⟨rfl, trivial⟩ fun H7 l7 => pure_den _ (not_eq' _) (br_den (fun hd => by simp at hd) (fun _ => ?_))
  have hcards := hcards.le (Heap.le_trans l6 l7)
  have hbd := hbd.le (Heap.le_trans l6 l7)
  have hwv := hwv.le (Heap.le_trans l6 l7)
  repeat (first | refine chkN_den ?_ | refine chkV_den ?_ | refine chkP_den rfl ?_)
  refine newbox_den fun rA => ?_
  repeat (first | refine chkN_den ?_ | refine chkV_den ?_ | refine chkP_den rfl ?_)
  refine call_newF (shp := .one) (r := .bool (canT (cdsW k n) (bdW 0 h) 0 [6])) (vs := [.bool (canT (cdsW k n) (bdW 0 h) 0 [6])]) (fun Hg lg hg => c_Can (hcards.le lg) (lightW hn4) (hbd.le lg) hst 0 (eff_block (hg _ List.mem_cons_self)) (by simp)) rfl ⟨rfl, trivial⟩ fun H8 l8 => ?_
  rw [can_one (bdW_valid (by omega) hh4) (.inl rfl) (by decide), eT (.inl rfl)]
  have hcards := hcards.le l8
  have hbd := hbd.le l8
  have hwv := hwv.le l8
  have wlen := hwv.len
  rw [tRows_len] at wlen
  repeat (first | refine chkN_den ?_ | refine chkV_den ?_ | refine chkP_den rfl ?_)
  refine pure_den _ wlen ?_
  repeat (first | refine chkN_den ?_ | refine chkV_den ?_ | refine chkP_den rfl ?_)
  refine pure_den _ (gtr_eq _ _) ?_
  repeat (first | refine chkN_den ?_ | refine chkV_den ?_ | refine chkP_den rfl ?_)
  refine pure_den _ (bneq_eq _ _) (br_den (fun hd => by simp at hd) (fun _ => ?_))
  repeat (first | refine chkN_den ?_ | refine chkV_den ?_ | refine chkP_den rfl ?_)
  refine call_new (c_TList hcards (lightW hn4) hbd hst 1 6) ?_
  rintro x2 H9 _ ⟨hx2, rfl⟩ l9
  refine ⟨[x2], rfl, ⟨hx2.one, trivial⟩, ?_⟩
  rw [eL (.inr rfl)] at hx2
  repeat (first | refine chkN_den ?_ | refine chkV_den ?_ | refine chkP_den rfl ?_)
  refine call_new0 (r_TSame (O := []) hx2 (hwv.le l9)) rfl ⟨rfl, trivial⟩ fun H10 l10 => pure_den _ (not_eq' _) (br_den (fun hd => by simp at hd) (fun _ => ?_))
  have hcards := hcards.le (Heap.le_trans l9 l10)
  have hbd := hbd.le (Heap.le_trans l9 l10)
  have hwv := hwv.le (Heap.le_trans l9 l10)
  repeat (first | refine chkN_den ?_ | refine chkV_den ?_ | refine chkP_den rfl ?_)
  refine newbox_den fun rB => ?_
  repeat (first | refine chkN_den ?_ | refine chkV_den ?_ | refine chkP_den rfl ?_)
  refine call_newF (shp := .one) (r := .bool (canT (cdsW k n) (bdW 0 h) 1 [6])) (vs := [.bool (canT (cdsW k n) (bdW 0 h) 1 [6])]) (fun Hg lg hg => c_Can (hcards.le lg) (lightW hn4) (hbd.le lg) hst 1 (eff_block (hg _ List.mem_cons_self)) (by simp)) rfl ⟨rfl, trivial⟩ fun H11 l11 => ?_
  rw [can_one (bdW_valid (by omega) hh4) (.inr rfl) (by decide), eT (.inr rfl)]
  repeat (first | refine chkN_den ?_ | refine chkV_den ?_ | refine chkP_den rfl ?_)
  refine pure_den _ wlen ?_
  repeat (first | refine chkN_den ?_ | refine chkV_den ?_ | refine chkP_den rfl ?_)
  refine pure_den _ (gtr_eq _ _) ?_
  repeat (first | refine chkN_den ?_ | refine chkV_den ?_ | refine chkP_den rfl ?_)
  refine pure_den _ (bneq_eq _ _) (br_den (fun hd => by simp at hd) (fun _ => ?_))
  repeat (first | refine chkN_den ?_ | refine chkV_den ?_ | refine chkP_den rfl ?_)
  exact call_retO (c_knownT _ _) rfl ⟨rfl, trivial⟩ fun _ _ => ret_drop ⟨rfl, rfl⟩
theorem waits_1 {H : Heap} {n h : Int} (hn : 0 ≤ n ∧ n ≤ 255) (hh : 0 ≤ h ∧ h ≤ 255) (k : Int) :
  Triple PP F_zeitnotlaw16_TargetWaits [.int .u8 n, .int .u8 h, iV k, .int .u8 1] H [] fun r _ O' => r = .bool true ∧ O' = [] := by
 refine run_waits_1 (vs := [.int .u8 n, .int .u8 h, iV k, .int .u8 1]) (by kernel_rfl) ⟨rfl, rfl, rfl, rfl, trivial⟩ rfl ?_
 simp only [T_waits_1]
 refine pure_den _ (gtr_u _ _) ?_
 repeat (first | refine chkN_den ?_ | refine chkV_den ?_ | refine chkP_den rfl ?_)
 refine pure_den _ (gtr_u _ _) ?_
 repeat (first | refine chkN_den ?_ | refine chkV_den ?_ | refine chkP_den rfl ?_)
 refine pure_den _ (pick_or _ _) ?_
 repeat (first | refine chkN_den ?_ | refine chkV_den ?_ | refine chkP_den rfl ?_)
 refine pure_den _ (pick_or _ _) (br_den (fun _ => ?_) (fun hc => ?_))
 ·repeat (first | refine chkN_den ?_ | refine chkV_den ?_ | refine chkP_den rfl ?_)
  exact call_retO (c_knownT _ []) rfl ⟨rfl, trivial⟩ fun _ _ => ret_denO ⟨rfl, rfl⟩
 have hc : ((decide (n > 4) || decide (h > 4)) || false) = false := hc
 have hn4 : n ≤ 4 := by simp at hc; omega
 have hh4 : h ≤ 4 := by simp at hc; omega
 obtain ⟨n, rfl⟩ : ∃ m : Nat, n = m := ⟨n.toNat, by omega⟩
 obtain ⟨h, rfl⟩ : ∃ m : Nat, h = m := ⟨h.toNat, by omega⟩
 replace hn4 : n ≤ 4 := by omega
 replace hh4 : h ≤ 4 := by omega
 repeat (first | refine chkN_den ?_ | refine chkV_den ?_ | refine chkP_den rfl ?_)
 refine newbox_den fun r0 => ?_
 repeat (first | refine chkN_den ?_ | refine chkV_den ?_ | refine chkP_den rfl ?_)
 refine loop_den (fun vs H' O' => ∃ (i : Nat) (x : Value), vs = [iV i, x] ∧ i ≤ n ∧ Heap.le H H' ∧ OSl Ty_api_Effect 5 x (efRows (List.replicate i ef1)) O') (fun vs _ _ => match g vs 0 with | .int _ j => n - j.toNat | _ => 0) ⟨0, _, rfl, Nat.zero_le _, Heap.le_refl _, OSl.nil _ _⟩ ?_
 rintro _ H1 O1 _ _ _ ⟨i, x, rfl, hi, hle, hx⟩
 repeat (first | refine chkN_den ?_ | refine chkV_den ?_ | refine chkP_den rfl ?_)
 refine pure_den _ (conv_w (n := (n : Int)) ⟨by omega, by omega⟩) ?_
 repeat (first | refine chkN_den ?_ | refine chkV_den ?_ | refine chkP_den rfl ?_)
 refine pure_den _ (lss_eq _ _) (br_den (fun hb => ?_) (fun hb => ?_))
 ·have hlt : i < n := by simpa using hb
  repeat (first | refine chkN_den ?_ | refine chkV_den ?_ | refine chkP_den rfl ?_)
  refine newbox_den fun r1 => ?_
  repeat (first | refine chkN_den ?_ | refine chkV_den ?_ | refine chkP_den rfl ?_)
  refine call_append (rows := efRows (List.replicate i ef1)) (news := [ef1.row]) (O1 := O1) (O2 := []) (e := Ty_api_Effect) (size := 5) (bytes := 40) (by kernel_rfl) (by simp) hx (fun Hf _ hf => Sl.block1 (hf _ List.mem_cons_self) rfl (ef_ones ef1)) (by rw [efRows_len, List.length_replicate, List.length_singleton]; omega) (by rw [efRows_len, List.length_replicate, List.length_singleton]; omega) ?_
  intro v' A' H6 l6 hA'
  repeat (first | refine chkN_den ?_ | refine chkV_den ?_ | refine chkP_den rfl ?_)
  refine pure_den _ (add_one (by omega)) (cont_den (by simp [Eqs, E]) ⟨i + 1, v', rfl, hlt, Heap.le_trans hle l6, ?_⟩ ?_)
  ·have e : efRows (List.replicate (i + 1) ef1) = efRows (List.replicate i ef1) ++ [ef1.row] := by rw [List.replicate_succ']; simp [efRows]
   rw [List.append_nil, e]; exact hA'
  ·show n - ((i + 1 : Nat) : Int).toNat < n - (i : Int).toNat
   omega
 have e : n = i := by have := of_decide_eq_false hb; omega
 subst e
 repeat (first | refine chkN_den ?_ | refine chkV_den ?_ | refine chkP_den rfl ?_)
 refine newbox_den fun r2 => ?_
 repeat (first | refine chkN_den ?_ | refine chkV_den ?_ | refine chkP_den rfl ?_)
 refine newbox_den fun r3 => ?_
 repeat (first | refine chkN_den ?_ | refine chkV_den ?_ | refine chkP_den rfl ?_)
 refine call_gk (B := []) (gz_one hx (by simp)) fun Hf lf hf hxf => ⟨_, new5 (Sl.block (cs := [iV 0, iV 1, iV 1, iV 1, iV 1]) (hf _ List.mem_cons_self) ⟨rfl, rfl, rfl, rfl, rfl, trivial⟩ rfl (by omega)) (Sl.block (cs := []) (hf _ (List.mem_cons_of_mem _ List.mem_cons_self)) trivial rfl (by omega)), ?_⟩
 rintro _ H2 _ ⟨⟨w, rfl, hb⟩, rfl⟩ l2
 refine ⟨boardC w (newBd 5 [0, 1, 1, 1, 1] []) ++ [iV 0], rfl, ones_app (boardC_ones (hb.r [])) ⟨rfl, trivial⟩, ?_⟩
 have hxf := hxf.le l2
 repeat (first | refine chkN_den ?_ | refine chkV_den ?_ | refine chkP_den rfl ?_)
 refine newbox_den fun r4 => ?_
 repeat (first | refine chkN_den ?_ | refine chkV_den ?_ | refine chkP_den rfl ?_)
 refine pure_den _ (neq_eq 0 0) (br_den (fun hd => by cases hd) (fun _ => ?_))
 repeat (first | refine chkN_den ?_ | refine chkV_den ?_ | refine chkP_den rfl ?_)
 refine newbox_den fun r5 => ?_
 repeat (first | refine chkN_den ?_ | refine chkV_den ?_ | refine chkP_den rfl ?_)
 refine make_two (t := 58) (elem := Ty_api_Target) (z := iV 0) (z' := iV 0) Try.underlying58 (by kernel_rfl) (by kernel_rfl) (by kernel_rfl) rfl rfl (n := h) (by omega) fun sT H3 l3 hsT => ?_
 have hxf := hxf.le l3
 have hb := hb.le l3
 repeat (first | refine chkN_den ?_ | refine chkV_den ?_ | refine chkP_den rfl ?_)
 refine newbox_den fun r6 => ?_
 repeat (first | refine chkN_den ?_ | refine chkV_den ?_ | refine chkP_den rfl ?_)
 refine newbox_den fun q1 => ?_
 repeat (first | refine chkN_den ?_ | refine chkV_den ?_ | refine chkP_den rfl ?_)
 refine call_gk (B := []) gz_keep fun Hf lf hf _ => ⟨_, append_frzO (e := Ty_api_Item) (size := 5) (by kernel_rfl) (ad := ⟨r6, 0, none⟩) (rows := [itRow0 sT]) (news := [itRowJ 2]) (Sl.block1 (hf _ List.mem_cons_self) rfl ⟨rfl, rfl, rfl, rfl, hsT.one, trivial⟩) (Sl.block1 (hf _ (List.mem_cons_of_mem _ List.mem_cons_self)) rfl ⟨rfl, rfl, rfl, rfl, rfl, trivial⟩) (by simp) (by rw [show bytesOf PP Ty_api_Item = 56 by kernel_rfl]; simp) (by simp), ?_⟩
 rintro S H9 A ⟨hH, hS⟩ _
 obtain rfl : Hf = H9 := hH.symm
 refine ⟨[S], rfl, ⟨hS.one, trivial⟩, ?_⟩
 have hxf := hxf.le lf
 have hb := hb.le lf
 have hsT := hsT.le lf
 repeat (first | refine chkN_den ?_ | refine chkV_den ?_ | refine chkP_den rfl ?_)
 refine newbox_den fun r8 => ?_
 repeat (first | refine chkN_den ?_ | refine chkV_den ?_ | refine chkP_den rfl ?_)
 refine call_gk (B := A ++ []) gz_keep fun Hf lf hf _ => ⟨_, append_nilO (e := Ty_api_Target) (size := 2) (by kernel_rfl), ?_⟩
 rintro _ H9 _ ⟨rfl, hH, rfl⟩ _
 obtain rfl : Hf = H9 := hH.symm
 refine ⟨[.slice (some ⟨r8, 0, none⟩) 1 1], rfl, ⟨rfl, trivial⟩, ?_⟩
 have hw1 : Sl Hf 2 (.slice (some ⟨r8, 0, none⟩) 1 1) [encT 2] := Sl.block1 (hf _ List.mem_cons_self) rfl ⟨rfl, rfl, trivial⟩
 have hxf := hxf.le lf
 have hb := hb.le lf
 have hsT := hsT.le lf
 repeat (first | refine chkN_den ?_ | refine chkV_den ?_ | refine chkP_den rfl ?_)
 refine pure_den _ (geq_u _ _) ?_
 repeat (first | refine chkN_den ?_ | refine chkV_den ?_ | refine chkP_den rfl ?_)
 refine pure_den _ (eql_eq k 3) ?_
 repeat (first | refine chkN_den ?_ | refine chkV_den ?_ | refine chkP_den rfl ?_)
 refine pure_den _ (eql_eq k 4) ?_
 repeat (first | refine chkN_den ?_ | refine chkV_den ?_ | refine chkP_den rfl ?_)
 refine pure_den _ (pick_or _ _) ?_
 repeat (first | refine chkN_den ?_ | refine chkV_den ?_ | refine chkP_den rfl ?_)
 refine pure_den _ (pick_and _ _) (br_den (fun ho => ?_) (fun ho => ?_))
 ·have ho : okW k n h = true := ho
  repeat (first | refine chkN_den ?_ | refine chkV_den ?_ | refine chkP_den rfl ?_)
  refine newbox_den fun rX => ?_
  repeat (first | refine chkN_den ?_ | refine chkV_den ?_ | refine chkP_den rfl ?_)
  refine call_gk (B := A ++ []) gz_keep fun Hf lf hf _ => ⟨_, append_frzO (e := Ty_api_Target) (size := 2) (by kernel_rfl) (ad := ⟨r8, 0, none⟩) (rows := [encT 2]) (news := [encT 1]) (hw1.le lf) (Sl.block1 (hf _ List.mem_cons_self) rfl ⟨rfl, rfl, trivial⟩) (by simp) (by rw [show bytesOf PP Ty_api_Target = 16 by kernel_rfl]; simp) (by simp), ?_⟩
  rintro W H9 B ⟨hH, hW'⟩ _
  obtain rfl : Hf = H9 := hH.symm
  have hW : OSl Ty_api_Target 2 W [encT 2, encT 1] B := hW'
  refine ⟨[W], rfl, ⟨hW.one, trivial⟩, ?_⟩
  have hWS : (B ++ (A ++ [])).Perm (B ++ A) := by simp
  have hxf := hxf.le lf
  have hb := hb.le lf
  have hsT := hsT.le lf
  have eT : ∀ {p : Int}, p = 0 ∨ p = 1 → listT (cdsW k n) (bdW 1 h) p 6 = tgs [2, 1] := fun _ => by
   rw [show ∀ p, listT (cdsW k n) (bdW 1 h) p 6 = tgs (spellsT (cdsW k n) (bdW 1 h)) from fun _ => rfl, spellsW (by omega), if_pos ho]; rfl
  have eL : ∀ {p : Int}, p = 0 ∨ p = 1 → ListT (cdsW k n) (bdW 1 h) p 6 = tgs [2, 1] := fun hp => by
   rw [listW (by omega) hh4 k n hp, if_pos ho]; rfl
  have hst : (bdW 1 h).stack.length ≤ 1000000 := by simp [bdW, itsW]
  repeat (first | refine chkN_den ?_ | refine chkV_den ?_ | refine chkP_den rfl ?_)
  refine call_gk (B := []) (gz_two hW hS hWS) fun Hf lf hf hphi => ?_
  obtain ⟨hWf, hSf⟩ := hphi
  have hcards : CardsS Hf (.slice (some ⟨r0, 0, none⟩) 2 2) (cdsW k n) := cardsW (hf _ List.mem_cons_self) (hxf.le lf)
  have hbd := bdsW (c := 1) (h := h) (hb.le lf) (hf _ (List.mem_cons_of_mem _ List.mem_cons_self)) (by omega) hSf (hsT.le lf)
  have hwv : Sl Hf 2 W (tRows (tgs [2, 1])) := hWf
  refine ⟨_, c_TList hcards (lightW hn4) hbd hst 0 6, ?_⟩
  rintro x1 H6 _ ⟨hx1, rfl⟩ l6
  refine ⟨[x1], rfl, ⟨hx1.one, trivial⟩, ?_⟩
  rw [eL (.inl rfl)] at hx1
  repeat (first | refine chkN_den ?_ | refine chkV_den ?_ | refine chkP_den rfl ?_)
  refine call_new0 (r_TSame (O := []) hx1 (hwv.le l6)) rfl ⟨rfl, trivial⟩ fun H7 l7 => pure_den _ (not_eq' _) (br_den (fun hd => by simp at hd) (fun _ => ?_))
  have hcards := hcards.le (Heap.le_trans l6 l7)
  have hbd := hbd.le (Heap.le_trans l6 l7)
  have hwv := hwv.le (Heap.le_trans l6 l7)
  repeat (first | refine chkN_den ?_ | refine chkV_den ?_ | refine chkP_den rfl ?_)
  refine newbox_den fun rA => ?_
  repeat (first | refine chkN_den ?_ | refine chkV_den ?_ | refine chkP_den rfl ?_)
  refine call_newF (shp := .one) (r := .bool (canT (cdsW k n) (bdW 1 h) 0 [6])) (vs := [.bool (canT (cdsW k n) (bdW 1 h) 0 [6])]) (fun Hg lg hg => c_Can (hcards.le lg) (lightW hn4) (hbd.le lg) hst 0 (eff_block (hg _ List.mem_cons_self)) (by simp)) rfl ⟨rfl, trivial⟩ fun H8 l8 => ?_
  rw [can_one (bdW_valid (by omega) hh4) (.inl rfl) (by decide), eT (.inl rfl)]
  have hcards := hcards.le l8
  have hbd := hbd.le l8
  have hwv := hwv.le l8
  have wlen := hwv.len
  rw [tRows_len] at wlen
  repeat (first | refine chkN_den ?_ | refine chkV_den ?_ | refine chkP_den rfl ?_)
  refine pure_den _ wlen ?_
  repeat (first | refine chkN_den ?_ | refine chkV_den ?_ | refine chkP_den rfl ?_)
  refine pure_den _ (gtr_eq _ _) ?_
  repeat (first | refine chkN_den ?_ | refine chkV_den ?_ | refine chkP_den rfl ?_)
  refine pure_den _ (bneq_eq _ _) (br_den (fun hd => by simp at hd) (fun _ => ?_))
  repeat (first | refine chkN_den ?_ | refine chkV_den ?_ | refine chkP_den rfl ?_)
  refine call_new (c_TList hcards (lightW hn4) hbd hst 1 6) ?_
  rintro x2 H9 _ ⟨hx2, rfl⟩ l9
  refine ⟨[x2], rfl, ⟨hx2.one, trivial⟩, ?_⟩
  rw [eL (.inr rfl)] at hx2
  repeat (first | refine chkN_den ?_ | refine chkV_den ?_ | refine chkP_den rfl ?_)
  refine call_new0 (r_TSame (O := []) hx2 (hwv.le l9)) rfl ⟨rfl, trivial⟩ fun H10 l10 => pure_den _ (not_eq' _) (br_den (fun hd => by simp at hd) (fun _ => ?_))
  have hcards := hcards.le (Heap.le_trans l9 l10)
  have hbd := hbd.le (Heap.le_trans l9 l10)
  have hwv := hwv.le (Heap.le_trans l9 l10)
  repeat (first | refine chkN_den ?_ | refine chkV_den ?_ | refine chkP_den rfl ?_)
  refine newbox_den fun rB => ?_
  repeat (first | refine chkN_den ?_ | refine chkV_den ?_ | refine chkP_den rfl ?_)
  refine call_newF (shp := .one) (r := .bool (canT (cdsW k n) (bdW 1 h) 1 [6])) (vs := [.bool (canT (cdsW k n) (bdW 1 h) 1 [6])]) (fun Hg lg hg => c_Can (hcards.le lg) (lightW hn4) (hbd.le lg) hst 1 (eff_block (hg _ List.mem_cons_self)) (by simp)) rfl ⟨rfl, trivial⟩ fun H11 l11 => ?_
  rw [can_one (bdW_valid (by omega) hh4) (.inr rfl) (by decide), eT (.inr rfl)]
  repeat (first | refine chkN_den ?_ | refine chkV_den ?_ | refine chkP_den rfl ?_)
  refine pure_den _ wlen ?_
  repeat (first | refine chkN_den ?_ | refine chkV_den ?_ | refine chkP_den rfl ?_)
  refine pure_den _ (gtr_eq _ _) ?_
  repeat (first | refine chkN_den ?_ | refine chkV_den ?_ | refine chkP_den rfl ?_)
  refine pure_den _ (bneq_eq _ _) (br_den (fun hd => by simp at hd) (fun _ => ?_))
  repeat (first | refine chkN_den ?_ | refine chkV_den ?_ | refine chkP_den rfl ?_)
  exact call_retO (c_knownT _ _) rfl ⟨rfl, trivial⟩ fun _ _ => ret_drop ⟨rfl, rfl⟩
 ·have ho : okW k n h = false := ho
  have eT : ∀ {p : Int}, p = 0 ∨ p = 1 → listT (cdsW k n) (bdW 1 h) p 6 = tgs [2] := fun _ => by
   rw [show ∀ p, listT (cdsW k n) (bdW 1 h) p 6 = tgs (spellsT (cdsW k n) (bdW 1 h)) from fun _ => rfl, spellsW (by omega), if_neg (by rw [ho]; simp)]; rfl
  have eL : ∀ {p : Int}, p = 0 ∨ p = 1 → ListT (cdsW k n) (bdW 1 h) p 6 = tgs [2] := fun hp => by
   rw [listW (by omega) hh4 k n hp, if_neg (by rw [ho]; simp)]; rfl
  have hst : (bdW 1 h).stack.length ≤ 1000000 := by simp [bdW, itsW]
  repeat (first | refine chkN_den ?_ | refine chkV_den ?_ | refine chkP_den rfl ?_)
  refine call_gk (B := []) (gz_one hS (by simp)) fun Hf lf hf hphi => ?_
  have hSf := hphi
  have hcards : CardsS Hf (.slice (some ⟨r0, 0, none⟩) 2 2) (cdsW k n) := cardsW (hf _ List.mem_cons_self) (hxf.le lf)
  have hbd := bdsW (c := 1) (h := h) (hb.le lf) (hf _ (List.mem_cons_of_mem _ List.mem_cons_self)) (by omega) hSf (hsT.le lf)
  have hwv : Sl Hf 2 (.slice (some ⟨r8, 0, none⟩) 1 1) (tRows (tgs [2])) := hw1.le lf
  refine ⟨_, c_TList hcards (lightW hn4) hbd hst 0 6, ?_⟩
  rintro x1 H6 _ ⟨hx1, rfl⟩ l6
  refine ⟨[x1], rfl, ⟨hx1.one, trivial⟩, ?_⟩
  rw [eL (.inl rfl)] at hx1
  repeat (first | refine chkN_den ?_ | refine chkV_den ?_ | refine chkP_den rfl ?_)
  refine call_new0 (r_TSame (O := []) hx1 (hwv.le l6)) rfl ⟨rfl, trivial⟩ fun H7 l7 => pure_den _ (not_eq' _) (br_den (fun hd => by simp at hd) (fun _ => ?_))
  have hcards := hcards.le (Heap.le_trans l6 l7)
  have hbd := hbd.le (Heap.le_trans l6 l7)
  have hwv := hwv.le (Heap.le_trans l6 l7)
  repeat (first | refine chkN_den ?_ | refine chkV_den ?_ | refine chkP_den rfl ?_)
  refine newbox_den fun rA => ?_
  repeat (first | refine chkN_den ?_ | refine chkV_den ?_ | refine chkP_den rfl ?_)
  refine call_newF (shp := .one) (r := .bool (canT (cdsW k n) (bdW 1 h) 0 [6])) (vs := [.bool (canT (cdsW k n) (bdW 1 h) 0 [6])]) (fun Hg lg hg => c_Can (hcards.le lg) (lightW hn4) (hbd.le lg) hst 0 (eff_block (hg _ List.mem_cons_self)) (by simp)) rfl ⟨rfl, trivial⟩ fun H8 l8 => ?_
  rw [can_one (bdW_valid (by omega) hh4) (.inl rfl) (by decide), eT (.inl rfl)]
  have hcards := hcards.le l8
  have hbd := hbd.le l8
  have hwv := hwv.le l8
  have wlen := hwv.len
  rw [tRows_len] at wlen
  repeat (first | refine chkN_den ?_ | refine chkV_den ?_ | refine chkP_den rfl ?_)
  refine pure_den _ wlen ?_
  repeat (first | refine chkN_den ?_ | refine chkV_den ?_ | refine chkP_den rfl ?_)
  refine pure_den _ (gtr_eq _ _) ?_
  repeat (first | refine chkN_den ?_ | refine chkV_den ?_ | refine chkP_den rfl ?_)
  refine pure_den _ (bneq_eq _ _) (br_den (fun hd => by simp at hd) (fun _ => ?_))
  repeat (first | refine chkN_den ?_ | refine chkV_den ?_ | refine chkP_den rfl ?_)
  refine call_new (c_TList hcards (lightW hn4) hbd hst 1 6) ?_
  rintro x2 H9 _ ⟨hx2, rfl⟩ l9
  refine ⟨[x2], rfl, ⟨hx2.one, trivial⟩, ?_⟩
  rw [eL (.inr rfl)] at hx2
  repeat (first | refine chkN_den ?_ | refine chkV_den ?_ | refine chkP_den rfl ?_)
  refine call_new0 (r_TSame (O := []) hx2 (hwv.le l9)) rfl ⟨rfl, trivial⟩ fun H10 l10 => pure_den _ (not_eq' _) (br_den (fun hd => by simp at hd) (fun _ => ?_))
  have hcards := hcards.le (Heap.le_trans l9 l10)
  have hbd := hbd.le (Heap.le_trans l9 l10)
  have hwv := hwv.le (Heap.le_trans l9 l10)
  repeat (first | refine chkN_den ?_ | refine chkV_den ?_ | refine chkP_den rfl ?_)
  refine newbox_den fun rB => ?_
  repeat (first | refine chkN_den ?_ | refine chkV_den ?_ | refine chkP_den rfl ?_)
  refine call_newF (shp := .one) (r := .bool (canT (cdsW k n) (bdW 1 h) 1 [6])) (vs := [.bool (canT (cdsW k n) (bdW 1 h) 1 [6])]) (fun Hg lg hg => c_Can (hcards.le lg) (lightW hn4) (hbd.le lg) hst 1 (eff_block (hg _ List.mem_cons_self)) (by simp)) rfl ⟨rfl, trivial⟩ fun H11 l11 => ?_
  rw [can_one (bdW_valid (by omega) hh4) (.inr rfl) (by decide), eT (.inr rfl)]
  repeat (first | refine chkN_den ?_ | refine chkV_den ?_ | refine chkP_den rfl ?_)
  refine pure_den _ wlen ?_
  repeat (first | refine chkN_den ?_ | refine chkV_den ?_ | refine chkP_den rfl ?_)
  refine pure_den _ (gtr_eq _ _) ?_
  repeat (first | refine chkN_den ?_ | refine chkV_den ?_ | refine chkP_den rfl ?_)
  refine pure_den _ (bneq_eq _ _) (br_den (fun hd => by simp at hd) (fun _ => ?_))
  repeat (first | refine chkN_den ?_ | refine chkV_den ?_ | refine chkP_den rfl ?_)
  exact call_retO (c_knownT _ _) rfl ⟨rfl, trivial⟩ fun _ _ => ret_drop ⟨rfl, rfl⟩
theorem waits_2 {H : Heap} {n h : Int} (hn : 0 ≤ n ∧ n ≤ 255) (hh : 0 ≤ h ∧ h ≤ 255) (k : Int) :
  Triple PP F_zeitnotlaw16_TargetWaits [.int .u8 n, .int .u8 h, iV k, .int .u8 2] H [] fun r _ O' => r = .bool true ∧ O' = [] := by
 refine run_waits_2 (vs := [.int .u8 n, .int .u8 h, iV k, .int .u8 2]) (by kernel_rfl) ⟨rfl, rfl, rfl, rfl, trivial⟩ rfl ?_
 simp only [T_waits_2]
 refine pure_den _ (gtr_u _ _) ?_
 repeat (first | refine chkN_den ?_ | refine chkV_den ?_ | refine chkP_den rfl ?_)
 refine pure_den _ (gtr_u _ _) ?_
 repeat (first | refine chkN_den ?_ | refine chkV_den ?_ | refine chkP_den rfl ?_)
 refine pure_den _ (pick_or _ _) ?_
 repeat (first | refine chkN_den ?_ | refine chkV_den ?_ | refine chkP_den rfl ?_)
 refine pure_den _ (pick_or _ _) (br_den (fun _ => ?_) (fun hc => ?_))
 ·repeat (first | refine chkN_den ?_ | refine chkV_den ?_ | refine chkP_den rfl ?_)
  exact call_retO (c_knownT _ []) rfl ⟨rfl, trivial⟩ fun _ _ => ret_denO ⟨rfl, rfl⟩
 have hc : ((decide (n > 4) || decide (h > 4)) || false) = false := hc
 have hn4 : n ≤ 4 := by simp at hc; omega
 have hh4 : h ≤ 4 := by simp at hc; omega
 obtain ⟨n, rfl⟩ : ∃ m : Nat, n = m := ⟨n.toNat, by omega⟩
 obtain ⟨h, rfl⟩ : ∃ m : Nat, h = m := ⟨h.toNat, by omega⟩
 replace hn4 : n ≤ 4 := by omega
 replace hh4 : h ≤ 4 := by omega
 repeat (first | refine chkN_den ?_ | refine chkV_den ?_ | refine chkP_den rfl ?_)
 refine newbox_den fun r0 => ?_
 repeat (first | refine chkN_den ?_ | refine chkV_den ?_ | refine chkP_den rfl ?_)
 refine loop_den (fun vs H' O' => ∃ (i : Nat) (x : Value), vs = [iV i, x] ∧ i ≤ n ∧ Heap.le H H' ∧ OSl Ty_api_Effect 5 x (efRows (List.replicate i ef1)) O') (fun vs _ _ => match g vs 0 with | .int _ j => n - j.toNat | _ => 0) ⟨0, _, rfl, Nat.zero_le _, Heap.le_refl _, OSl.nil _ _⟩ ?_
 rintro _ H1 O1 _ _ _ ⟨i, x, rfl, hi, hle, hx⟩
 repeat (first | refine chkN_den ?_ | refine chkV_den ?_ | refine chkP_den rfl ?_)
 refine pure_den _ (conv_w (n := (n : Int)) ⟨by omega, by omega⟩) ?_
 repeat (first | refine chkN_den ?_ | refine chkV_den ?_ | refine chkP_den rfl ?_)
 refine pure_den _ (lss_eq _ _) (br_den (fun hb => ?_) (fun hb => ?_))
 ·have hlt : i < n := by simpa using hb
  repeat (first | refine chkN_den ?_ | refine chkV_den ?_ | refine chkP_den rfl ?_)
  refine newbox_den fun r1 => ?_
  repeat (first | refine chkN_den ?_ | refine chkV_den ?_ | refine chkP_den rfl ?_)
  refine call_append (rows := efRows (List.replicate i ef1)) (news := [ef1.row]) (O1 := O1) (O2 := []) (e := Ty_api_Effect) (size := 5) (bytes := 40) (by kernel_rfl) (by simp) hx (fun Hf _ hf => Sl.block1 (hf _ List.mem_cons_self) rfl (ef_ones ef1)) (by rw [efRows_len, List.length_replicate, List.length_singleton]; omega) (by rw [efRows_len, List.length_replicate, List.length_singleton]; omega) ?_
  intro v' A' H6 l6 hA'
  repeat (first | refine chkN_den ?_ | refine chkV_den ?_ | refine chkP_den rfl ?_)
  refine pure_den _ (add_one (by omega)) (cont_den (by simp [Eqs, E]) ⟨i + 1, v', rfl, hlt, Heap.le_trans hle l6, ?_⟩ ?_)
  ·have e : efRows (List.replicate (i + 1) ef1) = efRows (List.replicate i ef1) ++ [ef1.row] := by rw [List.replicate_succ']; simp [efRows]
   rw [List.append_nil, e]; exact hA'
  ·show n - ((i + 1 : Nat) : Int).toNat < n - (i : Int).toNat
   omega
 have e : n = i := by have := of_decide_eq_false hb; omega
 subst e
 repeat (first | refine chkN_den ?_ | refine chkV_den ?_ | refine chkP_den rfl ?_)
 refine newbox_den fun r2 => ?_
 repeat (first | refine chkN_den ?_ | refine chkV_den ?_ | refine chkP_den rfl ?_)
 refine newbox_den fun r3 => ?_
 repeat (first | refine chkN_den ?_ | refine chkV_den ?_ | refine chkP_den rfl ?_)
 refine call_gk (B := []) (gz_one hx (by simp)) fun Hf lf hf hxf => ⟨_, new5 (Sl.block (cs := [iV 0, iV 1, iV 1, iV 1, iV 1]) (hf _ List.mem_cons_self) ⟨rfl, rfl, rfl, rfl, rfl, trivial⟩ rfl (by omega)) (Sl.block (cs := []) (hf _ (List.mem_cons_of_mem _ List.mem_cons_self)) trivial rfl (by omega)), ?_⟩
 rintro _ H2 _ ⟨⟨w, rfl, hb⟩, rfl⟩ l2
 refine ⟨boardC w (newBd 5 [0, 1, 1, 1, 1] []) ++ [iV 0], rfl, ones_app (boardC_ones (hb.r [])) ⟨rfl, trivial⟩, ?_⟩
 have hxf := hxf.le l2
 repeat (first | refine chkN_den ?_ | refine chkV_den ?_ | refine chkP_den rfl ?_)
 refine newbox_den fun r4 => ?_
 repeat (first | refine chkN_den ?_ | refine chkV_den ?_ | refine chkP_den rfl ?_)
 refine pure_den _ (neq_eq 0 0) (br_den (fun hd => by cases hd) (fun _ => ?_))
 repeat (first | refine chkN_den ?_ | refine chkV_den ?_ | refine chkP_den rfl ?_)
 refine newbox_den fun r5 => ?_
 repeat (first | refine chkN_den ?_ | refine chkV_den ?_ | refine chkP_den rfl ?_)
 refine make_two (t := 58) (elem := Ty_api_Target) (z := iV 0) (z' := iV 0) Try.underlying58 (by kernel_rfl) (by kernel_rfl) (by kernel_rfl) rfl rfl (n := h) (by omega) fun sT H3 l3 hsT => ?_
 have hxf := hxf.le l3
 have hb := hb.le l3
 repeat (first | refine chkN_den ?_ | refine chkV_den ?_ | refine chkP_den rfl ?_)
 refine newbox_den fun r6 => ?_
 repeat (first | refine chkN_den ?_ | refine chkV_den ?_ | refine chkP_den rfl ?_)
 refine newbox_den fun q1 => ?_
 repeat (first | refine chkN_den ?_ | refine chkV_den ?_ | refine chkP_den rfl ?_)
 refine call_gk (B := []) gz_keep fun Hf lf hf _ => ⟨_, append_frzO (e := Ty_api_Item) (size := 5) (by kernel_rfl) (ad := ⟨r6, 0, none⟩) (rows := [itRow0 sT]) (news := [itRowJ 2]) (Sl.block1 (hf _ List.mem_cons_self) rfl ⟨rfl, rfl, rfl, rfl, hsT.one, trivial⟩) (Sl.block1 (hf _ (List.mem_cons_of_mem _ List.mem_cons_self)) rfl ⟨rfl, rfl, rfl, rfl, rfl, trivial⟩) (by simp) (by rw [show bytesOf PP Ty_api_Item = 56 by kernel_rfl]; simp) (by simp), ?_⟩
 rintro S H9 A ⟨hH, hS⟩ _
 obtain rfl : Hf = H9 := hH.symm
 refine ⟨[S], rfl, ⟨hS.one, trivial⟩, ?_⟩
 have hxf := hxf.le lf
 have hb := hb.le lf
 have hsT := hsT.le lf
 repeat (first | refine chkN_den ?_ | refine chkV_den ?_ | refine chkP_den rfl ?_)
 refine newbox_den fun r8 => ?_
 repeat (first | refine chkN_den ?_ | refine chkV_den ?_ | refine chkP_den rfl ?_)
 refine call_gk (B := A ++ []) gz_keep fun Hf lf hf _ => ⟨_, append_nilO (e := Ty_api_Target) (size := 2) (by kernel_rfl), ?_⟩
 rintro _ H9 _ ⟨rfl, hH, rfl⟩ _
 obtain rfl : Hf = H9 := hH.symm
 refine ⟨[.slice (some ⟨r8, 0, none⟩) 1 1], rfl, ⟨rfl, trivial⟩, ?_⟩
 have hw1 : Sl Hf 2 (.slice (some ⟨r8, 0, none⟩) 1 1) [encT 2] := Sl.block1 (hf _ List.mem_cons_self) rfl ⟨rfl, rfl, trivial⟩
 have hxf := hxf.le lf
 have hb := hb.le lf
 have hsT := hsT.le lf
 repeat (first | refine chkN_den ?_ | refine chkV_den ?_ | refine chkP_den rfl ?_)
 refine newbox_den fun q2 => ?_
 repeat (first | refine chkN_den ?_ | refine chkV_den ?_ | refine chkP_den rfl ?_)
 refine call_append (rows := stRows sT 1) (news := [itRowJ 3]) (O1 := A) (O2 := []) (e := Ty_api_Item) (size := 5) (bytes := 56) (by kernel_rfl) (by simp) hS (fun Hf _ hf => Sl.block1 (hf _ List.mem_cons_self) rfl ⟨rfl, rfl, rfl, rfl, rfl, trivial⟩) (by simp [stRows]) (by simp [stRows]) ?_
 intro S' A' H4 l4 hS'
 have hS : OSl Ty_api_Item 5 S' (stRows sT 2) A' := hS'
 have hxf := hxf.le l4
 have hb := hb.le l4
 have hsT := hsT.le l4
 have hw1 := hw1.le l4
 repeat (first | refine chkN_den ?_ | refine chkV_den ?_ | refine chkP_den rfl ?_)
 refine newbox_den fun q2' => ?_
 repeat (first | refine chkN_den ?_ | refine chkV_den ?_ | refine chkP_den rfl ?_)
 refine call_gk (B := A' ++ []) gz_keep fun Hf lf hf _ => ⟨_, append_frzO (e := Ty_api_Target) (size := 2) (by kernel_rfl) (ad := ⟨q2', 0, none⟩) (rows := [encT 3]) (news := [encT 2]) (Sl.block1 (hf _ List.mem_cons_self) rfl ⟨rfl, rfl, trivial⟩) (hw1.le lf) (by simp) (by rw [show bytesOf PP Ty_api_Target = 16 by kernel_rfl]; simp) (by simp), ?_⟩
 rintro W H9 B ⟨hH, hW'⟩ _
 obtain rfl : Hf = H9 := hH.symm
 have hW : OSl Ty_api_Target 2 W [encT 3, encT 2] B := hW'
 refine ⟨[W], rfl, ⟨hW.one, trivial⟩, ?_⟩
 have hWS : (B ++ (A' ++ [])).Perm (B ++ A') := by simp
 have hxf := hxf.le lf
 have hb := hb.le lf
 have hsT := hsT.le lf
 have hw1 := hw1.le lf
 clear hS'
 obtain ⟨A, rfl⟩ : ∃ A, A = A' := ⟨_, rfl⟩
 repeat (first | refine chkN_den ?_ | refine chkV_den ?_ | refine chkP_den rfl ?_)
 refine pure_den _ (geq_u _ _) ?_
 repeat (first | refine chkN_den ?_ | refine chkV_den ?_ | refine chkP_den rfl ?_)
 refine pure_den _ (eql_eq k 3) ?_
 repeat (first | refine chkN_den ?_ | refine chkV_den ?_ | refine chkP_den rfl ?_)
 refine pure_den _ (eql_eq k 4) ?_
 repeat (first | refine chkN_den ?_ | refine chkV_den ?_ | refine chkP_den rfl ?_)
 refine pure_den _ (pick_or _ _) ?_
 repeat (first | refine chkN_den ?_ | refine chkV_den ?_ | refine chkP_den rfl ?_)
 refine pure_den _ (pick_and _ _) (br_den (fun ho => ?_) (fun ho => ?_))
 ·have ho : okW k n h = true := ho
  repeat (first | refine chkN_den ?_ | refine chkV_den ?_ | refine chkP_den rfl ?_)
  refine newbox_den fun rX => ?_
  repeat (first | refine chkN_den ?_ | refine chkV_den ?_ | refine chkP_den rfl ?_)
  refine call_append (rows := [encT 3, encT 2]) (news := [encT 1]) (O1 := B) (O2 := A) (e := Ty_api_Target) (size := 2) (bytes := 16) (by kernel_rfl) (by simp) hW (fun Hf _ hf => Sl.block1 (hf _ List.mem_cons_self) rfl ⟨rfl, rfl, trivial⟩) (by simp) (by simp) ?_
  intro W' B' H4 l4 hW'
  have hW : OSl Ty_api_Target 2 W' [encT 3, encT 2, encT 1] B' := hW'
  have hWS : (B' ++ A).Perm (B' ++ A) := List.Perm.refl _
  have hxf := hxf.le l4
  have hb := hb.le l4
  have hsT := hsT.le l4
  have eT : ∀ {p : Int}, p = 0 ∨ p = 1 → listT (cdsW k n) (bdW 2 h) p 6 = tgs [3, 2, 1] := fun _ => by
   rw [show ∀ p, listT (cdsW k n) (bdW 2 h) p 6 = tgs (spellsT (cdsW k n) (bdW 2 h)) from fun _ => rfl, spellsW (by omega), if_pos ho]; rfl
  have eL : ∀ {p : Int}, p = 0 ∨ p = 1 → ListT (cdsW k n) (bdW 2 h) p 6 = tgs [3, 2, 1] := fun hp => by
   rw [listW (by omega) hh4 k n hp, if_pos ho]; rfl
  have hst : (bdW 2 h).stack.length ≤ 1000000 := by simp [bdW, itsW]
  repeat (first | refine chkN_den ?_ | refine chkV_den ?_ | refine chkP_den rfl ?_)
  refine call_gk (B := []) (gz_two hW hS hWS) fun Hf lf hf hphi => ?_
  obtain ⟨hWf, hSf⟩ := hphi
  have hcards : CardsS Hf (.slice (some ⟨r0, 0, none⟩) 2 2) (cdsW k n) := cardsW (hf _ List.mem_cons_self) (hxf.le lf)
  have hbd := bdsW (c := 2) (h := h) (hb.le lf) (hf _ (List.mem_cons_of_mem _ List.mem_cons_self)) (by omega) hSf (hsT.le lf)
  have hwv : Sl Hf 2 W' (tRows (tgs [3, 2, 1])) := hWf
  refine ⟨_, c_TList hcards (lightW hn4) hbd hst 0 6, ?_⟩
  rintro x1 H6 _ ⟨hx1, rfl⟩ l6
  refine ⟨[x1], rfl, ⟨hx1.one, trivial⟩, ?_⟩
  rw [eL (.inl rfl)] at hx1
  repeat (first | refine chkN_den ?_ | refine chkV_den ?_ | refine chkP_den rfl ?_)
  refine call_new0 (r_TSame (O := []) hx1 (hwv.le l6)) rfl ⟨rfl, trivial⟩ fun H7 l7 => pure_den _ (not_eq' _) (br_den (fun hd => by simp at hd) (fun _ => ?_))
  have hcards := hcards.le (Heap.le_trans l6 l7)
  have hbd := hbd.le (Heap.le_trans l6 l7)
  have hwv := hwv.le (Heap.le_trans l6 l7)
  repeat (first | refine chkN_den ?_ | refine chkV_den ?_ | refine chkP_den rfl ?_)
  refine newbox_den fun rA => ?_
  repeat (first | refine chkN_den ?_ | refine chkV_den ?_ | refine chkP_den rfl ?_)
  refine call_newF (shp := .one) (r := .bool (canT (cdsW k n) (bdW 2 h) 0 [6])) (vs := [.bool (canT (cdsW k n) (bdW 2 h) 0 [6])]) (fun Hg lg hg => c_Can (hcards.le lg) (lightW hn4) (hbd.le lg) hst 0 (eff_block (hg _ List.mem_cons_self)) (by simp)) rfl ⟨rfl, trivial⟩ fun H8 l8 => ?_
  rw [can_one (bdW_valid (by omega) hh4) (.inl rfl) (by decide), eT (.inl rfl)]
  have hcards := hcards.le l8
  have hbd := hbd.le l8
  have hwv := hwv.le l8
  have wlen := hwv.len
  rw [tRows_len] at wlen
  repeat (first | refine chkN_den ?_ | refine chkV_den ?_ | refine chkP_den rfl ?_)
  refine pure_den _ wlen ?_
  repeat (first | refine chkN_den ?_ | refine chkV_den ?_ | refine chkP_den rfl ?_)
  refine pure_den _ (gtr_eq _ _) ?_
  repeat (first | refine chkN_den ?_ | refine chkV_den ?_ | refine chkP_den rfl ?_)
  refine pure_den _ (bneq_eq _ _) (br_den (fun hd => by simp at hd) (fun _ => ?_))
  repeat (first | refine chkN_den ?_ | refine chkV_den ?_ | refine chkP_den rfl ?_)
  refine call_new (c_TList hcards (lightW hn4) hbd hst 1 6) ?_
  rintro x2 H9 _ ⟨hx2, rfl⟩ l9
  refine ⟨[x2], rfl, ⟨hx2.one, trivial⟩, ?_⟩
  rw [eL (.inr rfl)] at hx2
  repeat (first | refine chkN_den ?_ | refine chkV_den ?_ | refine chkP_den rfl ?_)
  refine call_new0 (r_TSame (O := []) hx2 (hwv.le l9)) rfl ⟨rfl, trivial⟩ fun H10 l10 => pure_den _ (not_eq' _) (br_den (fun hd => by simp at hd) (fun _ => ?_))
  have hcards := hcards.le (Heap.le_trans l9 l10)
  have hbd := hbd.le (Heap.le_trans l9 l10)
  have hwv := hwv.le (Heap.le_trans l9 l10)
  repeat (first | refine chkN_den ?_ | refine chkV_den ?_ | refine chkP_den rfl ?_)
  refine newbox_den fun rB => ?_
  repeat (first | refine chkN_den ?_ | refine chkV_den ?_ | refine chkP_den rfl ?_)
  refine call_newF (shp := .one) (r := .bool (canT (cdsW k n) (bdW 2 h) 1 [6])) (vs := [.bool (canT (cdsW k n) (bdW 2 h) 1 [6])]) (fun Hg lg hg => c_Can (hcards.le lg) (lightW hn4) (hbd.le lg) hst 1 (eff_block (hg _ List.mem_cons_self)) (by simp)) rfl ⟨rfl, trivial⟩ fun H11 l11 => ?_
  rw [can_one (bdW_valid (by omega) hh4) (.inr rfl) (by decide), eT (.inr rfl)]
  repeat (first | refine chkN_den ?_ | refine chkV_den ?_ | refine chkP_den rfl ?_)
  refine pure_den _ wlen ?_
  repeat (first | refine chkN_den ?_ | refine chkV_den ?_ | refine chkP_den rfl ?_)
  refine pure_den _ (gtr_eq _ _) ?_
  repeat (first | refine chkN_den ?_ | refine chkV_den ?_ | refine chkP_den rfl ?_)
  refine pure_den _ (bneq_eq _ _) (br_den (fun hd => by simp at hd) (fun _ => ?_))
  repeat (first | refine chkN_den ?_ | refine chkV_den ?_ | refine chkP_den rfl ?_)
  exact call_retO (c_knownT _ _) rfl ⟨rfl, trivial⟩ fun _ _ => ret_drop ⟨rfl, rfl⟩
 ·have ho : okW k n h = false := ho
  have eT : ∀ {p : Int}, p = 0 ∨ p = 1 → listT (cdsW k n) (bdW 2 h) p 6 = tgs [3, 2] := fun _ => by
   rw [show ∀ p, listT (cdsW k n) (bdW 2 h) p 6 = tgs (spellsT (cdsW k n) (bdW 2 h)) from fun _ => rfl, spellsW (by omega), if_neg (by rw [ho]; simp)]; rfl
  have eL : ∀ {p : Int}, p = 0 ∨ p = 1 → ListT (cdsW k n) (bdW 2 h) p 6 = tgs [3, 2] := fun hp => by
   rw [listW (by omega) hh4 k n hp, if_neg (by rw [ho]; simp)]; rfl
  have hst : (bdW 2 h).stack.length ≤ 1000000 := by simp [bdW, itsW]
  repeat (first | refine chkN_den ?_ | refine chkV_den ?_ | refine chkP_den rfl ?_)
  refine call_gk (B := []) (gz_two hW hS hWS) fun Hf lf hf hphi => ?_
  obtain ⟨hWf, hSf⟩ := hphi
  have hcards : CardsS Hf (.slice (some ⟨r0, 0, none⟩) 2 2) (cdsW k n) := cardsW (hf _ List.mem_cons_self) (hxf.le lf)
  have hbd := bdsW (c := 2) (h := h) (hb.le lf) (hf _ (List.mem_cons_of_mem _ List.mem_cons_self)) (by omega) hSf (hsT.le lf)
  have hwv : Sl Hf 2 W (tRows (tgs [3, 2])) := hWf
  refine ⟨_, c_TList hcards (lightW hn4) hbd hst 0 6, ?_⟩
  rintro x1 H6 _ ⟨hx1, rfl⟩ l6
  refine ⟨[x1], rfl, ⟨hx1.one, trivial⟩, ?_⟩
  rw [eL (.inl rfl)] at hx1
  repeat (first | refine chkN_den ?_ | refine chkV_den ?_ | refine chkP_den rfl ?_)
  refine call_new0 (r_TSame (O := []) hx1 (hwv.le l6)) rfl ⟨rfl, trivial⟩ fun H7 l7 => pure_den _ (not_eq' _) (br_den (fun hd => by simp at hd) (fun _ => ?_))
  have hcards := hcards.le (Heap.le_trans l6 l7)
  have hbd := hbd.le (Heap.le_trans l6 l7)
  have hwv := hwv.le (Heap.le_trans l6 l7)
  repeat (first | refine chkN_den ?_ | refine chkV_den ?_ | refine chkP_den rfl ?_)
  refine newbox_den fun rA => ?_
  repeat (first | refine chkN_den ?_ | refine chkV_den ?_ | refine chkP_den rfl ?_)
  refine call_newF (shp := .one) (r := .bool (canT (cdsW k n) (bdW 2 h) 0 [6])) (vs := [.bool (canT (cdsW k n) (bdW 2 h) 0 [6])]) (fun Hg lg hg => c_Can (hcards.le lg) (lightW hn4) (hbd.le lg) hst 0 (eff_block (hg _ List.mem_cons_self)) (by simp)) rfl ⟨rfl, trivial⟩ fun H8 l8 => ?_
  rw [can_one (bdW_valid (by omega) hh4) (.inl rfl) (by decide), eT (.inl rfl)]
  have hcards := hcards.le l8
  have hbd := hbd.le l8
  have hwv := hwv.le l8
  have wlen := hwv.len
  rw [tRows_len] at wlen
  repeat (first | refine chkN_den ?_ | refine chkV_den ?_ | refine chkP_den rfl ?_)
  refine pure_den _ wlen ?_
  repeat (first | refine chkN_den ?_ | refine chkV_den ?_ | refine chkP_den rfl ?_)
  refine pure_den _ (gtr_eq _ _) ?_
  repeat (first | refine chkN_den ?_ | refine chkV_den ?_ | refine chkP_den rfl ?_)
  refine pure_den _ (bneq_eq _ _) (br_den (fun hd => by simp at hd) (fun _ => ?_))
  repeat (first | refine chkN_den ?_ | refine chkV_den ?_ | refine chkP_den rfl ?_)
  refine call_new (c_TList hcards (lightW hn4) hbd hst 1 6) ?_
  rintro x2 H9 _ ⟨hx2, rfl⟩ l9
  refine ⟨[x2], rfl, ⟨hx2.one, trivial⟩, ?_⟩
  rw [eL (.inr rfl)] at hx2
  repeat (first | refine chkN_den ?_ | refine chkV_den ?_ | refine chkP_den rfl ?_)
  refine call_new0 (r_TSame (O := []) hx2 (hwv.le l9)) rfl ⟨rfl, trivial⟩ fun H10 l10 => pure_den _ (not_eq' _) (br_den (fun hd => by simp at hd) (fun _ => ?_))
  have hcards := hcards.le (Heap.le_trans l9 l10)
  have hbd := hbd.le (Heap.le_trans l9 l10)
  have hwv := hwv.le (Heap.le_trans l9 l10)
  repeat (first | refine chkN_den ?_ | refine chkV_den ?_ | refine chkP_den rfl ?_)
  refine newbox_den fun rB => ?_
  repeat (first | refine chkN_den ?_ | refine chkV_den ?_ | refine chkP_den rfl ?_)
  refine call_newF (shp := .one) (r := .bool (canT (cdsW k n) (bdW 2 h) 1 [6])) (vs := [.bool (canT (cdsW k n) (bdW 2 h) 1 [6])]) (fun Hg lg hg => c_Can (hcards.le lg) (lightW hn4) (hbd.le lg) hst 1 (eff_block (hg _ List.mem_cons_self)) (by simp)) rfl ⟨rfl, trivial⟩ fun H11 l11 => ?_
  rw [can_one (bdW_valid (by omega) hh4) (.inr rfl) (by decide), eT (.inr rfl)]
  repeat (first | refine chkN_den ?_ | refine chkV_den ?_ | refine chkP_den rfl ?_)
  refine pure_den _ wlen ?_
  repeat (first | refine chkN_den ?_ | refine chkV_den ?_ | refine chkP_den rfl ?_)
  refine pure_den _ (gtr_eq _ _) ?_
  repeat (first | refine chkN_den ?_ | refine chkV_den ?_ | refine chkP_den rfl ?_)
  refine pure_den _ (bneq_eq _ _) (br_den (fun hd => by simp at hd) (fun _ => ?_))
  repeat (first | refine chkN_den ?_ | refine chkV_den ?_ | refine chkP_den rfl ?_)
  exact call_retO (c_knownT _ _) rfl ⟨rfl, trivial⟩ fun _ _ => ret_drop ⟨rfl, rfl⟩
theorem waits_3 {H : Heap} {n h : Int} (hn : 0 ≤ n ∧ n ≤ 255) (hh : 0 ≤ h ∧ h ≤ 255) (k : Int) :
  Triple PP F_zeitnotlaw16_TargetWaits [.int .u8 n, .int .u8 h, iV k, .int .u8 3] H [] fun r _ O' => r = .bool true ∧ O' = [] := by
 refine run_waits_3 (vs := [.int .u8 n, .int .u8 h, iV k, .int .u8 3]) (by kernel_rfl) ⟨rfl, rfl, rfl, rfl, trivial⟩ rfl ?_
 simp only [T_waits_3]
 refine pure_den _ (gtr_u _ _) ?_
 repeat (first | refine chkN_den ?_ | refine chkV_den ?_ | refine chkP_den rfl ?_)
 refine pure_den _ (gtr_u _ _) ?_
 repeat (first | refine chkN_den ?_ | refine chkV_den ?_ | refine chkP_den rfl ?_)
 refine pure_den _ (pick_or _ _) ?_
 repeat (first | refine chkN_den ?_ | refine chkV_den ?_ | refine chkP_den rfl ?_)
 refine pure_den _ (pick_or _ _) (br_den (fun _ => ?_) (fun hc => ?_))
 ·repeat (first | refine chkN_den ?_ | refine chkV_den ?_ | refine chkP_den rfl ?_)
  exact call_retO (c_knownT _ []) rfl ⟨rfl, trivial⟩ fun _ _ => ret_denO ⟨rfl, rfl⟩
 have hc : ((decide (n > 4) || decide (h > 4)) || false) = false := hc
 have hn4 : n ≤ 4 := by simp at hc; omega
 have hh4 : h ≤ 4 := by simp at hc; omega
 obtain ⟨n, rfl⟩ : ∃ m : Nat, n = m := ⟨n.toNat, by omega⟩
 obtain ⟨h, rfl⟩ : ∃ m : Nat, h = m := ⟨h.toNat, by omega⟩
 replace hn4 : n ≤ 4 := by omega
 replace hh4 : h ≤ 4 := by omega
 repeat (first | refine chkN_den ?_ | refine chkV_den ?_ | refine chkP_den rfl ?_)
 refine newbox_den fun r0 => ?_
 repeat (first | refine chkN_den ?_ | refine chkV_den ?_ | refine chkP_den rfl ?_)
 refine loop_den (fun vs H' O' => ∃ (i : Nat) (x : Value), vs = [iV i, x] ∧ i ≤ n ∧ Heap.le H H' ∧ OSl Ty_api_Effect 5 x (efRows (List.replicate i ef1)) O') (fun vs _ _ => match g vs 0 with | .int _ j => n - j.toNat | _ => 0) ⟨0, _, rfl, Nat.zero_le _, Heap.le_refl _, OSl.nil _ _⟩ ?_
 rintro _ H1 O1 _ _ _ ⟨i, x, rfl, hi, hle, hx⟩
 repeat (first | refine chkN_den ?_ | refine chkV_den ?_ | refine chkP_den rfl ?_)
 refine pure_den _ (conv_w (n := (n : Int)) ⟨by omega, by omega⟩) ?_
 repeat (first | refine chkN_den ?_ | refine chkV_den ?_ | refine chkP_den rfl ?_)
 refine pure_den _ (lss_eq _ _) (br_den (fun hb => ?_) (fun hb => ?_))
 ·have hlt : i < n := by simpa using hb
  repeat (first | refine chkN_den ?_ | refine chkV_den ?_ | refine chkP_den rfl ?_)
  refine newbox_den fun r1 => ?_
  repeat (first | refine chkN_den ?_ | refine chkV_den ?_ | refine chkP_den rfl ?_)
  refine call_append (rows := efRows (List.replicate i ef1)) (news := [ef1.row]) (O1 := O1) (O2 := []) (e := Ty_api_Effect) (size := 5) (bytes := 40) (by kernel_rfl) (by simp) hx (fun Hf _ hf => Sl.block1 (hf _ List.mem_cons_self) rfl (ef_ones ef1)) (by rw [efRows_len, List.length_replicate, List.length_singleton]; omega) (by rw [efRows_len, List.length_replicate, List.length_singleton]; omega) ?_
  intro v' A' H6 l6 hA'
  repeat (first | refine chkN_den ?_ | refine chkV_den ?_ | refine chkP_den rfl ?_)
  refine pure_den _ (add_one (by omega)) (cont_den (by simp [Eqs, E]) ⟨i + 1, v', rfl, hlt, Heap.le_trans hle l6, ?_⟩ ?_)
  ·have e : efRows (List.replicate (i + 1) ef1) = efRows (List.replicate i ef1) ++ [ef1.row] := by rw [List.replicate_succ']; simp [efRows]
   rw [List.append_nil, e]; exact hA'
  ·show n - ((i + 1 : Nat) : Int).toNat < n - (i : Int).toNat
   omega
 have e : n = i := by have := of_decide_eq_false hb; omega
 subst e
 repeat (first | refine chkN_den ?_ | refine chkV_den ?_ | refine chkP_den rfl ?_)
 refine newbox_den fun r2 => ?_
 repeat (first | refine chkN_den ?_ | refine chkV_den ?_ | refine chkP_den rfl ?_)
 refine newbox_den fun r3 => ?_
 repeat (first | refine chkN_den ?_ | refine chkV_den ?_ | refine chkP_den rfl ?_)
 refine call_gk (B := []) (gz_one hx (by simp)) fun Hf lf hf hxf => ⟨_, new5 (Sl.block (cs := [iV 0, iV 1, iV 1, iV 1, iV 1]) (hf _ List.mem_cons_self) ⟨rfl, rfl, rfl, rfl, rfl, trivial⟩ rfl (by omega)) (Sl.block (cs := []) (hf _ (List.mem_cons_of_mem _ List.mem_cons_self)) trivial rfl (by omega)), ?_⟩
 rintro _ H2 _ ⟨⟨w, rfl, hb⟩, rfl⟩ l2
 refine ⟨boardC w (newBd 5 [0, 1, 1, 1, 1] []) ++ [iV 0], rfl, ones_app (boardC_ones (hb.r [])) ⟨rfl, trivial⟩, ?_⟩
 have hxf := hxf.le l2
 repeat (first | refine chkN_den ?_ | refine chkV_den ?_ | refine chkP_den rfl ?_)
 refine newbox_den fun r4 => ?_
 repeat (first | refine chkN_den ?_ | refine chkV_den ?_ | refine chkP_den rfl ?_)
 refine pure_den _ (neq_eq 0 0) (br_den (fun hd => by cases hd) (fun _ => ?_))
 repeat (first | refine chkN_den ?_ | refine chkV_den ?_ | refine chkP_den rfl ?_)
 refine newbox_den fun r5 => ?_
 repeat (first | refine chkN_den ?_ | refine chkV_den ?_ | refine chkP_den rfl ?_)
 refine make_two (t := 58) (elem := Ty_api_Target) (z := iV 0) (z' := iV 0) Try.underlying58 (by kernel_rfl) (by kernel_rfl) (by kernel_rfl) rfl rfl (n := h) (by omega) fun sT H3 l3 hsT => ?_
 have hxf := hxf.le l3
 have hb := hb.le l3
 repeat (first | refine chkN_den ?_ | refine chkV_den ?_ | refine chkP_den rfl ?_)
 refine newbox_den fun r6 => ?_
 repeat (first | refine chkN_den ?_ | refine chkV_den ?_ | refine chkP_den rfl ?_)
 refine newbox_den fun q1 => ?_
 repeat (first | refine chkN_den ?_ | refine chkV_den ?_ | refine chkP_den rfl ?_)
 refine call_gk (B := []) gz_keep fun Hf lf hf _ => ⟨_, append_frzO (e := Ty_api_Item) (size := 5) (by kernel_rfl) (ad := ⟨r6, 0, none⟩) (rows := [itRow0 sT]) (news := [itRowJ 2]) (Sl.block1 (hf _ List.mem_cons_self) rfl ⟨rfl, rfl, rfl, rfl, hsT.one, trivial⟩) (Sl.block1 (hf _ (List.mem_cons_of_mem _ List.mem_cons_self)) rfl ⟨rfl, rfl, rfl, rfl, rfl, trivial⟩) (by simp) (by rw [show bytesOf PP Ty_api_Item = 56 by kernel_rfl]; simp) (by simp), ?_⟩
 rintro S H9 A ⟨hH, hS⟩ _
 obtain rfl : Hf = H9 := hH.symm
 refine ⟨[S], rfl, ⟨hS.one, trivial⟩, ?_⟩
 have hxf := hxf.le lf
 have hb := hb.le lf
 have hsT := hsT.le lf
 repeat (first | refine chkN_den ?_ | refine chkV_den ?_ | refine chkP_den rfl ?_)
 refine newbox_den fun r8 => ?_
 repeat (first | refine chkN_den ?_ | refine chkV_den ?_ | refine chkP_den rfl ?_)
 refine call_gk (B := A ++ []) gz_keep fun Hf lf hf _ => ⟨_, append_nilO (e := Ty_api_Target) (size := 2) (by kernel_rfl), ?_⟩
 rintro _ H9 _ ⟨rfl, hH, rfl⟩ _
 obtain rfl : Hf = H9 := hH.symm
 refine ⟨[.slice (some ⟨r8, 0, none⟩) 1 1], rfl, ⟨rfl, trivial⟩, ?_⟩
 have hw1 : Sl Hf 2 (.slice (some ⟨r8, 0, none⟩) 1 1) [encT 2] := Sl.block1 (hf _ List.mem_cons_self) rfl ⟨rfl, rfl, trivial⟩
 have hxf := hxf.le lf
 have hb := hb.le lf
 have hsT := hsT.le lf
 repeat (first | refine chkN_den ?_ | refine chkV_den ?_ | refine chkP_den rfl ?_)
 refine newbox_den fun q2 => ?_
 repeat (first | refine chkN_den ?_ | refine chkV_den ?_ | refine chkP_den rfl ?_)
 refine call_append (rows := stRows sT 1) (news := [itRowJ 3]) (O1 := A) (O2 := []) (e := Ty_api_Item) (size := 5) (bytes := 56) (by kernel_rfl) (by simp) hS (fun Hf _ hf => Sl.block1 (hf _ List.mem_cons_self) rfl ⟨rfl, rfl, rfl, rfl, rfl, trivial⟩) (by simp [stRows]) (by simp [stRows]) ?_
 intro S' A' H4 l4 hS'
 have hS : OSl Ty_api_Item 5 S' (stRows sT 2) A' := hS'
 have hxf := hxf.le l4
 have hb := hb.le l4
 have hsT := hsT.le l4
 have hw1 := hw1.le l4
 repeat (first | refine chkN_den ?_ | refine chkV_den ?_ | refine chkP_den rfl ?_)
 refine newbox_den fun q2' => ?_
 repeat (first | refine chkN_den ?_ | refine chkV_den ?_ | refine chkP_den rfl ?_)
 refine call_gk (B := A' ++ []) gz_keep fun Hf lf hf _ => ⟨_, append_frzO (e := Ty_api_Target) (size := 2) (by kernel_rfl) (ad := ⟨q2', 0, none⟩) (rows := [encT 3]) (news := [encT 2]) (Sl.block1 (hf _ List.mem_cons_self) rfl ⟨rfl, rfl, trivial⟩) (hw1.le lf) (by simp) (by rw [show bytesOf PP Ty_api_Target = 16 by kernel_rfl]; simp) (by simp), ?_⟩
 rintro W H9 B ⟨hH, hW'⟩ _
 obtain rfl : Hf = H9 := hH.symm
 have hW : OSl Ty_api_Target 2 W [encT 3, encT 2] B := hW'
 refine ⟨[W], rfl, ⟨hW.one, trivial⟩, ?_⟩
 have hWS : (B ++ (A' ++ [])).Perm (B ++ A') := by simp
 have hxf := hxf.le lf
 have hb := hb.le lf
 have hsT := hsT.le lf
 have hw1 := hw1.le lf
 clear hS'
 obtain ⟨A, rfl⟩ : ∃ A, A = A' := ⟨_, rfl⟩
 repeat (first | refine chkN_den ?_ | refine chkV_den ?_ | refine chkP_den rfl ?_)
 refine newbox_den fun q3 => ?_
 repeat (first | refine chkN_den ?_ | refine chkV_den ?_ | refine chkP_den rfl ?_)
 refine call_append (rows := stRows sT 2) (news := [itRowJ 4]) (O1 := A) (O2 := B) (e := Ty_api_Item) (size := 5) (bytes := 56) (by kernel_rfl) (by simpa using hWS.trans List.perm_append_comm) hS (fun Hf _ hf => Sl.block1 (hf _ List.mem_cons_self) rfl ⟨rfl, rfl, rfl, rfl, rfl, trivial⟩) (by simp [stRows]) (by simp [stRows]) ?_
 intro S' A' H4 l4 hS'
 have hS : OSl Ty_api_Item 5 S' (stRows sT 3) A' := hS'
 have hxf := hxf.le l4
 have hb := hb.le l4
 have hsT := hsT.le l4
 have hw1 := hw1.le l4
 repeat (first | refine chkN_den ?_ | refine chkV_den ?_ | refine chkP_den rfl ?_)
 refine newbox_den fun q3' => ?_
 repeat (first | refine chkN_den ?_ | refine chkV_den ?_ | refine chkP_den rfl ?_)
 refine call_gk (B := A') (gz_one hW (by simpa using List.perm_append_comm)) fun Hf lf hf hWf => ⟨_, append_frzO (e := Ty_api_Target) (size := 2) (by kernel_rfl) (ad := ⟨q3', 0, none⟩) (rows := [encT 4]) (news := [encT 3, encT 2]) (Sl.block1 (hf _ List.mem_cons_self) rfl ⟨rfl, rfl, trivial⟩) hWf (by simp) (by rw [show bytesOf PP Ty_api_Target = 16 by kernel_rfl]; simp) (by simp), ?_⟩
 rintro W2 H9 B2 ⟨hH, hW'⟩ _
 obtain rfl : Hf = H9 := hH.symm
 have hW : OSl Ty_api_Target 2 W2 [encT 4, encT 3, encT 2] B2 := hW'
 refine ⟨[W2], rfl, ⟨hW.one, trivial⟩, ?_⟩
 have hWS : (B2 ++ A').Perm (B2 ++ A') := List.Perm.refl _
 have hxf := hxf.le lf
 have hb := hb.le lf
 have hsT := hsT.le lf
 have hw1 := hw1.le lf
 clear hS' hW'
 obtain ⟨W, rfl⟩ : ∃ W, W = W2 := ⟨_, rfl⟩
 obtain ⟨B, rfl⟩ : ∃ B, B = B2 := ⟨_, rfl⟩
 obtain ⟨A, rfl⟩ : ∃ A, A = A' := ⟨_, rfl⟩
 repeat (first | refine chkN_den ?_ | refine chkV_den ?_ | refine chkP_den rfl ?_)
 refine pure_den _ (geq_u _ _) ?_
 repeat (first | refine chkN_den ?_ | refine chkV_den ?_ | refine chkP_den rfl ?_)
 refine pure_den _ (eql_eq k 3) ?_
 repeat (first | refine chkN_den ?_ | refine chkV_den ?_ | refine chkP_den rfl ?_)
 refine pure_den _ (eql_eq k 4) ?_
 repeat (first | refine chkN_den ?_ | refine chkV_den ?_ | refine chkP_den rfl ?_)
 refine pure_den _ (pick_or _ _) ?_
 repeat (first | refine chkN_den ?_ | refine chkV_den ?_ | refine chkP_den rfl ?_)
 refine pure_den _ (pick_and _ _) (br_den (fun ho => ?_) (fun ho => ?_))
 ·have ho : okW k n h = true := ho
  repeat (first | refine chkN_den ?_ | refine chkV_den ?_ | refine chkP_den rfl ?_)
  refine newbox_den fun rX => ?_
  repeat (first | refine chkN_den ?_ | refine chkV_den ?_ | refine chkP_den rfl ?_)
  refine call_append (rows := [encT 4, encT 3, encT 2]) (news := [encT 1]) (O1 := B) (O2 := A) (e := Ty_api_Target) (size := 2) (bytes := 16) (by kernel_rfl) (by simp) hW (fun Hf _ hf => Sl.block1 (hf _ List.mem_cons_self) rfl ⟨rfl, rfl, trivial⟩) (by simp) (by simp) ?_
  intro W' B' H4 l4 hW'
  have hW : OSl Ty_api_Target 2 W' [encT 4, encT 3, encT 2, encT 1] B' := hW'
  have hWS : (B' ++ A).Perm (B' ++ A) := List.Perm.refl _
  have hxf := hxf.le l4
  have hb := hb.le l4
  have hsT := hsT.le l4
  have eT : ∀ {p : Int}, p = 0 ∨ p = 1 → listT (cdsW k n) (bdW 3 h) p 6 = tgs [4, 3, 2, 1] := fun _ => by
   rw [show ∀ p, listT (cdsW k n) (bdW 3 h) p 6 = tgs (spellsT (cdsW k n) (bdW 3 h)) from fun _ => rfl, spellsW (by omega), if_pos ho]; rfl
  have eL : ∀ {p : Int}, p = 0 ∨ p = 1 → ListT (cdsW k n) (bdW 3 h) p 6 = tgs [4, 3, 2, 1] := fun hp => by
   rw [listW (by omega) hh4 k n hp, if_pos ho]; rfl
  have hst : (bdW 3 h).stack.length ≤ 1000000 := by simp [bdW, itsW]
  repeat (first | refine chkN_den ?_ | refine chkV_den ?_ | refine chkP_den rfl ?_)
  refine call_gk (B := []) (gz_two hW hS hWS) fun Hf lf hf hphi => ?_
  obtain ⟨hWf, hSf⟩ := hphi
  have hcards : CardsS Hf (.slice (some ⟨r0, 0, none⟩) 2 2) (cdsW k n) := cardsW (hf _ List.mem_cons_self) (hxf.le lf)
  have hbd := bdsW (c := 3) (h := h) (hb.le lf) (hf _ (List.mem_cons_of_mem _ List.mem_cons_self)) (by omega) hSf (hsT.le lf)
  have hwv : Sl Hf 2 W' (tRows (tgs [4, 3, 2, 1])) := hWf
  refine ⟨_, c_TList hcards (lightW hn4) hbd hst 0 6, ?_⟩
  rintro x1 H6 _ ⟨hx1, rfl⟩ l6
  refine ⟨[x1], rfl, ⟨hx1.one, trivial⟩, ?_⟩
  rw [eL (.inl rfl)] at hx1
  repeat (first | refine chkN_den ?_ | refine chkV_den ?_ | refine chkP_den rfl ?_)
  refine call_new0 (r_TSame (O := []) hx1 (hwv.le l6)) rfl ⟨rfl, trivial⟩ fun H7 l7 => pure_den _ (not_eq' _) (br_den (fun hd => by simp at hd) (fun _ => ?_))
  have hcards := hcards.le (Heap.le_trans l6 l7)
  have hbd := hbd.le (Heap.le_trans l6 l7)
  have hwv := hwv.le (Heap.le_trans l6 l7)
  repeat (first | refine chkN_den ?_ | refine chkV_den ?_ | refine chkP_den rfl ?_)
  refine newbox_den fun rA => ?_
  repeat (first | refine chkN_den ?_ | refine chkV_den ?_ | refine chkP_den rfl ?_)
  refine call_newF (shp := .one) (r := .bool (canT (cdsW k n) (bdW 3 h) 0 [6])) (vs := [.bool (canT (cdsW k n) (bdW 3 h) 0 [6])]) (fun Hg lg hg => c_Can (hcards.le lg) (lightW hn4) (hbd.le lg) hst 0 (eff_block (hg _ List.mem_cons_self)) (by simp)) rfl ⟨rfl, trivial⟩ fun H8 l8 => ?_
  rw [can_one (bdW_valid (by omega) hh4) (.inl rfl) (by decide), eT (.inl rfl)]
  have hcards := hcards.le l8
  have hbd := hbd.le l8
  have hwv := hwv.le l8
  have wlen := hwv.len
  rw [tRows_len] at wlen
  repeat (first | refine chkN_den ?_ | refine chkV_den ?_ | refine chkP_den rfl ?_)
  refine pure_den _ wlen ?_
  repeat (first | refine chkN_den ?_ | refine chkV_den ?_ | refine chkP_den rfl ?_)
  refine pure_den _ (gtr_eq _ _) ?_
  repeat (first | refine chkN_den ?_ | refine chkV_den ?_ | refine chkP_den rfl ?_)
  refine pure_den _ (bneq_eq _ _) (br_den (fun hd => by simp at hd) (fun _ => ?_))
  repeat (first | refine chkN_den ?_ | refine chkV_den ?_ | refine chkP_den rfl ?_)
  refine call_new (c_TList hcards (lightW hn4) hbd hst 1 6) ?_
  rintro x2 H9 _ ⟨hx2, rfl⟩ l9
  refine ⟨[x2], rfl, ⟨hx2.one, trivial⟩, ?_⟩
  rw [eL (.inr rfl)] at hx2
  repeat (first | refine chkN_den ?_ | refine chkV_den ?_ | refine chkP_den rfl ?_)
  refine call_new0 (r_TSame (O := []) hx2 (hwv.le l9)) rfl ⟨rfl, trivial⟩ fun H10 l10 => pure_den _ (not_eq' _) (br_den (fun hd => by simp at hd) (fun _ => ?_))
  have hcards := hcards.le (Heap.le_trans l9 l10)
  have hbd := hbd.le (Heap.le_trans l9 l10)
  have hwv := hwv.le (Heap.le_trans l9 l10)
  repeat (first | refine chkN_den ?_ | refine chkV_den ?_ | refine chkP_den rfl ?_)
  refine newbox_den fun rB => ?_
  repeat (first | refine chkN_den ?_ | refine chkV_den ?_ | refine chkP_den rfl ?_)
  refine call_newF (shp := .one) (r := .bool (canT (cdsW k n) (bdW 3 h) 1 [6])) (vs := [.bool (canT (cdsW k n) (bdW 3 h) 1 [6])]) (fun Hg lg hg => c_Can (hcards.le lg) (lightW hn4) (hbd.le lg) hst 1 (eff_block (hg _ List.mem_cons_self)) (by simp)) rfl ⟨rfl, trivial⟩ fun H11 l11 => ?_
  rw [can_one (bdW_valid (by omega) hh4) (.inr rfl) (by decide), eT (.inr rfl)]
  repeat (first | refine chkN_den ?_ | refine chkV_den ?_ | refine chkP_den rfl ?_)
  refine pure_den _ wlen ?_
  repeat (first | refine chkN_den ?_ | refine chkV_den ?_ | refine chkP_den rfl ?_)
  refine pure_den _ (gtr_eq _ _) ?_
  repeat (first | refine chkN_den ?_ | refine chkV_den ?_ | refine chkP_den rfl ?_)
  refine pure_den _ (bneq_eq _ _) (br_den (fun hd => by simp at hd) (fun _ => ?_))
  repeat (first | refine chkN_den ?_ | refine chkV_den ?_ | refine chkP_den rfl ?_)
  exact call_retO (c_knownT _ _) rfl ⟨rfl, trivial⟩ fun _ _ => ret_drop ⟨rfl, rfl⟩
 ·have ho : okW k n h = false := ho
  have eT : ∀ {p : Int}, p = 0 ∨ p = 1 → listT (cdsW k n) (bdW 3 h) p 6 = tgs [4, 3, 2] := fun _ => by
   rw [show ∀ p, listT (cdsW k n) (bdW 3 h) p 6 = tgs (spellsT (cdsW k n) (bdW 3 h)) from fun _ => rfl, spellsW (by omega), if_neg (by rw [ho]; simp)]; rfl
  have eL : ∀ {p : Int}, p = 0 ∨ p = 1 → ListT (cdsW k n) (bdW 3 h) p 6 = tgs [4, 3, 2] := fun hp => by
   rw [listW (by omega) hh4 k n hp, if_neg (by rw [ho]; simp)]; rfl
  have hst : (bdW 3 h).stack.length ≤ 1000000 := by simp [bdW, itsW]
  repeat (first | refine chkN_den ?_ | refine chkV_den ?_ | refine chkP_den rfl ?_)
  refine call_gk (B := []) (gz_two hW hS hWS) fun Hf lf hf hphi => ?_
  obtain ⟨hWf, hSf⟩ := hphi
  have hcards : CardsS Hf (.slice (some ⟨r0, 0, none⟩) 2 2) (cdsW k n) := cardsW (hf _ List.mem_cons_self) (hxf.le lf)
  have hbd := bdsW (c := 3) (h := h) (hb.le lf) (hf _ (List.mem_cons_of_mem _ List.mem_cons_self)) (by omega) hSf (hsT.le lf)
  have hwv : Sl Hf 2 W (tRows (tgs [4, 3, 2])) := hWf
  refine ⟨_, c_TList hcards (lightW hn4) hbd hst 0 6, ?_⟩
  rintro x1 H6 _ ⟨hx1, rfl⟩ l6
  refine ⟨[x1], rfl, ⟨hx1.one, trivial⟩, ?_⟩
  rw [eL (.inl rfl)] at hx1
  repeat (first | refine chkN_den ?_ | refine chkV_den ?_ | refine chkP_den rfl ?_)
  refine call_new0 (r_TSame (O := []) hx1 (hwv.le l6)) rfl ⟨rfl, trivial⟩ fun H7 l7 => pure_den _ (not_eq' _) (br_den (fun hd => by simp at hd) (fun _ => ?_))
  have hcards := hcards.le (Heap.le_trans l6 l7)
  have hbd := hbd.le (Heap.le_trans l6 l7)
  have hwv := hwv.le (Heap.le_trans l6 l7)
  repeat (first | refine chkN_den ?_ | refine chkV_den ?_ | refine chkP_den rfl ?_)
  refine newbox_den fun rA => ?_
  repeat (first | refine chkN_den ?_ | refine chkV_den ?_ | refine chkP_den rfl ?_)
  refine call_newF (shp := .one) (r := .bool (canT (cdsW k n) (bdW 3 h) 0 [6])) (vs := [.bool (canT (cdsW k n) (bdW 3 h) 0 [6])]) (fun Hg lg hg => c_Can (hcards.le lg) (lightW hn4) (hbd.le lg) hst 0 (eff_block (hg _ List.mem_cons_self)) (by simp)) rfl ⟨rfl, trivial⟩ fun H8 l8 => ?_
  rw [can_one (bdW_valid (by omega) hh4) (.inl rfl) (by decide), eT (.inl rfl)]
  have hcards := hcards.le l8
  have hbd := hbd.le l8
  have hwv := hwv.le l8
  have wlen := hwv.len
  rw [tRows_len] at wlen
  repeat (first | refine chkN_den ?_ | refine chkV_den ?_ | refine chkP_den rfl ?_)
  refine pure_den _ wlen ?_
  repeat (first | refine chkN_den ?_ | refine chkV_den ?_ | refine chkP_den rfl ?_)
  refine pure_den _ (gtr_eq _ _) ?_
  repeat (first | refine chkN_den ?_ | refine chkV_den ?_ | refine chkP_den rfl ?_)
  refine pure_den _ (bneq_eq _ _) (br_den (fun hd => by simp at hd) (fun _ => ?_))
  repeat (first | refine chkN_den ?_ | refine chkV_den ?_ | refine chkP_den rfl ?_)
  refine call_new (c_TList hcards (lightW hn4) hbd hst 1 6) ?_
  rintro x2 H9 _ ⟨hx2, rfl⟩ l9
  refine ⟨[x2], rfl, ⟨hx2.one, trivial⟩, ?_⟩
  rw [eL (.inr rfl)] at hx2
  repeat (first | refine chkN_den ?_ | refine chkV_den ?_ | refine chkP_den rfl ?_)
  refine call_new0 (r_TSame (O := []) hx2 (hwv.le l9)) rfl ⟨rfl, trivial⟩ fun H10 l10 => pure_den _ (not_eq' _) (br_den (fun hd => by simp at hd) (fun _ => ?_))
  have hcards := hcards.le (Heap.le_trans l9 l10)
  have hbd := hbd.le (Heap.le_trans l9 l10)
  have hwv := hwv.le (Heap.le_trans l9 l10)
  repeat (first | refine chkN_den ?_ | refine chkV_den ?_ | refine chkP_den rfl ?_)
  refine newbox_den fun rB => ?_
  repeat (first | refine chkN_den ?_ | refine chkV_den ?_ | refine chkP_den rfl ?_)
  refine call_newF (shp := .one) (r := .bool (canT (cdsW k n) (bdW 3 h) 1 [6])) (vs := [.bool (canT (cdsW k n) (bdW 3 h) 1 [6])]) (fun Hg lg hg => c_Can (hcards.le lg) (lightW hn4) (hbd.le lg) hst 1 (eff_block (hg _ List.mem_cons_self)) (by simp)) rfl ⟨rfl, trivial⟩ fun H11 l11 => ?_
  rw [can_one (bdW_valid (by omega) hh4) (.inr rfl) (by decide), eT (.inr rfl)]
  repeat (first | refine chkN_den ?_ | refine chkV_den ?_ | refine chkP_den rfl ?_)
  refine pure_den _ wlen ?_
  repeat (first | refine chkN_den ?_ | refine chkV_den ?_ | refine chkP_den rfl ?_)
  refine pure_den _ (gtr_eq _ _) ?_
  repeat (first | refine chkN_den ?_ | refine chkV_den ?_ | refine chkP_den rfl ?_)
  refine pure_den _ (bneq_eq _ _) (br_den (fun hd => by simp at hd) (fun _ => ?_))
  repeat (first | refine chkN_den ?_ | refine chkV_den ?_ | refine chkP_den rfl ?_)
  exact call_retO (c_knownT _ _) rfl ⟨rfl, trivial⟩ fun _ _ => ret_drop ⟨rfl, rfl⟩
theorem waits_4 {H : Heap} {n h : Int} (hn : 0 ≤ n ∧ n ≤ 255) (hh : 0 ≤ h ∧ h ≤ 255) (k : Int) :
  Triple PP F_zeitnotlaw16_TargetWaits [.int .u8 n, .int .u8 h, iV k, .int .u8 4] H [] fun r _ O' => r = .bool true ∧ O' = [] := by
 refine run_waits_4 (vs := [.int .u8 n, .int .u8 h, iV k, .int .u8 4]) (by kernel_rfl) ⟨rfl, rfl, rfl, rfl, trivial⟩ rfl ?_
 simp only [T_waits_4]
 refine pure_den _ (gtr_u _ _) ?_
 repeat (first | refine chkN_den ?_ | refine chkV_den ?_ | refine chkP_den rfl ?_)
 refine pure_den _ (gtr_u _ _) ?_
 repeat (first | refine chkN_den ?_ | refine chkV_den ?_ | refine chkP_den rfl ?_)
 refine pure_den _ (pick_or _ _) ?_
 repeat (first | refine chkN_den ?_ | refine chkV_den ?_ | refine chkP_den rfl ?_)
 refine pure_den _ (pick_or _ _) (br_den (fun _ => ?_) (fun hc => ?_))
 ·repeat (first | refine chkN_den ?_ | refine chkV_den ?_ | refine chkP_den rfl ?_)
  exact call_retO (c_knownT _ []) rfl ⟨rfl, trivial⟩ fun _ _ => ret_denO ⟨rfl, rfl⟩
 have hc : ((decide (n > 4) || decide (h > 4)) || false) = false := hc
 have hn4 : n ≤ 4 := by simp at hc; omega
 have hh4 : h ≤ 4 := by simp at hc; omega
 obtain ⟨n, rfl⟩ : ∃ m : Nat, n = m := ⟨n.toNat, by omega⟩
 obtain ⟨h, rfl⟩ : ∃ m : Nat, h = m := ⟨h.toNat, by omega⟩
 replace hn4 : n ≤ 4 := by omega
 replace hh4 : h ≤ 4 := by omega
 repeat (first | refine chkN_den ?_ | refine chkV_den ?_ | refine chkP_den rfl ?_)
 refine newbox_den fun r0 => ?_
 repeat (first | refine chkN_den ?_ | refine chkV_den ?_ | refine chkP_den rfl ?_)
 refine loop_den (fun vs H' O' => ∃ (i : Nat) (x : Value), vs = [iV i, x] ∧ i ≤ n ∧ Heap.le H H' ∧ OSl Ty_api_Effect 5 x (efRows (List.replicate i ef1)) O') (fun vs _ _ => match g vs 0 with | .int _ j => n - j.toNat | _ => 0) ⟨0, _, rfl, Nat.zero_le _, Heap.le_refl _, OSl.nil _ _⟩ ?_
 rintro _ H1 O1 _ _ _ ⟨i, x, rfl, hi, hle, hx⟩
 repeat (first | refine chkN_den ?_ | refine chkV_den ?_ | refine chkP_den rfl ?_)
 refine pure_den _ (conv_w (n := (n : Int)) ⟨by omega, by omega⟩) ?_
 repeat (first | refine chkN_den ?_ | refine chkV_den ?_ | refine chkP_den rfl ?_)
 refine pure_den _ (lss_eq _ _) (br_den (fun hb => ?_) (fun hb => ?_))
 ·have hlt : i < n := by simpa using hb
  repeat (first | refine chkN_den ?_ | refine chkV_den ?_ | refine chkP_den rfl ?_)
  refine newbox_den fun r1 => ?_
  repeat (first | refine chkN_den ?_ | refine chkV_den ?_ | refine chkP_den rfl ?_)
  refine call_append (rows := efRows (List.replicate i ef1)) (news := [ef1.row]) (O1 := O1) (O2 := []) (e := Ty_api_Effect) (size := 5) (bytes := 40) (by kernel_rfl) (by simp) hx (fun Hf _ hf => Sl.block1 (hf _ List.mem_cons_self) rfl (ef_ones ef1)) (by rw [efRows_len, List.length_replicate, List.length_singleton]; omega) (by rw [efRows_len, List.length_replicate, List.length_singleton]; omega) ?_
  intro v' A' H6 l6 hA'
  repeat (first | refine chkN_den ?_ | refine chkV_den ?_ | refine chkP_den rfl ?_)
  refine pure_den _ (add_one (by omega)) (cont_den (by simp [Eqs, E]) ⟨i + 1, v', rfl, hlt, Heap.le_trans hle l6, ?_⟩ ?_)
  ·have e : efRows (List.replicate (i + 1) ef1) = efRows (List.replicate i ef1) ++ [ef1.row] := by rw [List.replicate_succ']; simp [efRows]
   rw [List.append_nil, e]; exact hA'
  ·show n - ((i + 1 : Nat) : Int).toNat < n - (i : Int).toNat
   omega
 have e : n = i := by have := of_decide_eq_false hb; omega
 subst e
 repeat (first | refine chkN_den ?_ | refine chkV_den ?_ | refine chkP_den rfl ?_)
 refine newbox_den fun r2 => ?_
 repeat (first | refine chkN_den ?_ | refine chkV_den ?_ | refine chkP_den rfl ?_)
 refine newbox_den fun r3 => ?_
 repeat (first | refine chkN_den ?_ | refine chkV_den ?_ | refine chkP_den rfl ?_)
 refine call_gk (B := []) (gz_one hx (by simp)) fun Hf lf hf hxf => ⟨_, new5 (Sl.block (cs := [iV 0, iV 1, iV 1, iV 1, iV 1]) (hf _ List.mem_cons_self) ⟨rfl, rfl, rfl, rfl, rfl, trivial⟩ rfl (by omega)) (Sl.block (cs := []) (hf _ (List.mem_cons_of_mem _ List.mem_cons_self)) trivial rfl (by omega)), ?_⟩
 rintro _ H2 _ ⟨⟨w, rfl, hb⟩, rfl⟩ l2
 refine ⟨boardC w (newBd 5 [0, 1, 1, 1, 1] []) ++ [iV 0], rfl, ones_app (boardC_ones (hb.r [])) ⟨rfl, trivial⟩, ?_⟩
 have hxf := hxf.le l2
 repeat (first | refine chkN_den ?_ | refine chkV_den ?_ | refine chkP_den rfl ?_)
 refine newbox_den fun r4 => ?_
 repeat (first | refine chkN_den ?_ | refine chkV_den ?_ | refine chkP_den rfl ?_)
 refine pure_den _ (neq_eq 0 0) (br_den (fun hd => by cases hd) (fun _ => ?_))
 repeat (first | refine chkN_den ?_ | refine chkV_den ?_ | refine chkP_den rfl ?_)
 refine newbox_den fun r5 => ?_
 repeat (first | refine chkN_den ?_ | refine chkV_den ?_ | refine chkP_den rfl ?_)
 refine make_two (t := 58) (elem := Ty_api_Target) (z := iV 0) (z' := iV 0) Try.underlying58 (by kernel_rfl) (by kernel_rfl) (by kernel_rfl) rfl rfl (n := h) (by omega) fun sT H3 l3 hsT => ?_
 have hxf := hxf.le l3
 have hb := hb.le l3
 repeat (first | refine chkN_den ?_ | refine chkV_den ?_ | refine chkP_den rfl ?_)
 refine newbox_den fun r6 => ?_
 repeat (first | refine chkN_den ?_ | refine chkV_den ?_ | refine chkP_den rfl ?_)
 refine newbox_den fun q1 => ?_
 repeat (first | refine chkN_den ?_ | refine chkV_den ?_ | refine chkP_den rfl ?_)
 refine call_gk (B := []) gz_keep fun Hf lf hf _ => ⟨_, append_frzO (e := Ty_api_Item) (size := 5) (by kernel_rfl) (ad := ⟨r6, 0, none⟩) (rows := [itRow0 sT]) (news := [itRowJ 2]) (Sl.block1 (hf _ List.mem_cons_self) rfl ⟨rfl, rfl, rfl, rfl, hsT.one, trivial⟩) (Sl.block1 (hf _ (List.mem_cons_of_mem _ List.mem_cons_self)) rfl ⟨rfl, rfl, rfl, rfl, rfl, trivial⟩) (by simp) (by rw [show bytesOf PP Ty_api_Item = 56 by kernel_rfl]; simp) (by simp), ?_⟩
 rintro S H9 A ⟨hH, hS⟩ _
 obtain rfl : Hf = H9 := hH.symm
 refine ⟨[S], rfl, ⟨hS.one, trivial⟩, ?_⟩
 have hxf := hxf.le lf
 have hb := hb.le lf
 have hsT := hsT.le lf
 repeat (first | refine chkN_den ?_ | refine chkV_den ?_ | refine chkP_den rfl ?_)
 refine newbox_den fun r8 => ?_
 repeat (first | refine chkN_den ?_ | refine chkV_den ?_ | refine chkP_den rfl ?_)
 refine call_gk (B := A ++ []) gz_keep fun Hf lf hf _ => ⟨_, append_nilO (e := Ty_api_Target) (size := 2) (by kernel_rfl), ?_⟩
 rintro _ H9 _ ⟨rfl, hH, rfl⟩ _
 obtain rfl : Hf = H9 := hH.symm
 refine ⟨[.slice (some ⟨r8, 0, none⟩) 1 1], rfl, ⟨rfl, trivial⟩, ?_⟩
 have hw1 : Sl Hf 2 (.slice (some ⟨r8, 0, none⟩) 1 1) [encT 2] := Sl.block1 (hf _ List.mem_cons_self) rfl ⟨rfl, rfl, trivial⟩
 have hxf := hxf.le lf
 have hb := hb.le lf
 have hsT := hsT.le lf
 repeat (first | refine chkN_den ?_ | refine chkV_den ?_ | refine chkP_den rfl ?_)
 refine newbox_den fun q2 => ?_
 repeat (first | refine chkN_den ?_ | refine chkV_den ?_ | refine chkP_den rfl ?_)
 refine call_append (rows := stRows sT 1) (news := [itRowJ 3]) (O1 := A) (O2 := []) (e := Ty_api_Item) (size := 5) (bytes := 56) (by kernel_rfl) (by simp) hS (fun Hf _ hf => Sl.block1 (hf _ List.mem_cons_self) rfl ⟨rfl, rfl, rfl, rfl, rfl, trivial⟩) (by simp [stRows]) (by simp [stRows]) ?_
 intro S' A' H4 l4 hS'
 have hS : OSl Ty_api_Item 5 S' (stRows sT 2) A' := hS'
 have hxf := hxf.le l4
 have hb := hb.le l4
 have hsT := hsT.le l4
 have hw1 := hw1.le l4
 repeat (first | refine chkN_den ?_ | refine chkV_den ?_ | refine chkP_den rfl ?_)
 refine newbox_den fun q2' => ?_
 repeat (first | refine chkN_den ?_ | refine chkV_den ?_ | refine chkP_den rfl ?_)
 refine call_gk (B := A' ++ []) gz_keep fun Hf lf hf _ => ⟨_, append_frzO (e := Ty_api_Target) (size := 2) (by kernel_rfl) (ad := ⟨q2', 0, none⟩) (rows := [encT 3]) (news := [encT 2]) (Sl.block1 (hf _ List.mem_cons_self) rfl ⟨rfl, rfl, trivial⟩) (hw1.le lf) (by simp) (by rw [show bytesOf PP Ty_api_Target = 16 by kernel_rfl]; simp) (by simp), ?_⟩
 rintro W H9 B ⟨hH, hW'⟩ _
 obtain rfl : Hf = H9 := hH.symm
 have hW : OSl Ty_api_Target 2 W [encT 3, encT 2] B := hW'
 refine ⟨[W], rfl, ⟨hW.one, trivial⟩, ?_⟩
 have hWS : (B ++ (A' ++ [])).Perm (B ++ A') := by simp
 have hxf := hxf.le lf
 have hb := hb.le lf
 have hsT := hsT.le lf
 have hw1 := hw1.le lf
 clear hS'
 obtain ⟨A, rfl⟩ : ∃ A, A = A' := ⟨_, rfl⟩
 repeat (first | refine chkN_den ?_ | refine chkV_den ?_ | refine chkP_den rfl ?_)
 refine newbox_den fun q3 => ?_
 repeat (first | refine chkN_den ?_ | refine chkV_den ?_ | refine chkP_den rfl ?_)
 refine call_append (rows := stRows sT 2) (news := [itRowJ 4]) (O1 := A) (O2 := B) (e := Ty_api_Item) (size := 5) (bytes := 56) (by kernel_rfl) (by simpa using hWS.trans List.perm_append_comm) hS (fun Hf _ hf => Sl.block1 (hf _ List.mem_cons_self) rfl ⟨rfl, rfl, rfl, rfl, rfl, trivial⟩) (by simp [stRows]) (by simp [stRows]) ?_
 intro S' A' H4 l4 hS'
 have hS : OSl Ty_api_Item 5 S' (stRows sT 3) A' := hS'
 have hxf := hxf.le l4
 have hb := hb.le l4
 have hsT := hsT.le l4
 have hw1 := hw1.le l4
 repeat (first | refine chkN_den ?_ | refine chkV_den ?_ | refine chkP_den rfl ?_)
 refine newbox_den fun q3' => ?_
 repeat (first | refine chkN_den ?_ | refine chkV_den ?_ | refine chkP_den rfl ?_)
 refine call_gk (B := A') (gz_one hW (by simpa using List.perm_append_comm)) fun Hf lf hf hWf => ⟨_, append_frzO (e := Ty_api_Target) (size := 2) (by kernel_rfl) (ad := ⟨q3', 0, none⟩) (rows := [encT 4]) (news := [encT 3, encT 2]) (Sl.block1 (hf _ List.mem_cons_self) rfl ⟨rfl, rfl, trivial⟩) hWf (by simp) (by rw [show bytesOf PP Ty_api_Target = 16 by kernel_rfl]; simp) (by simp), ?_⟩
 rintro W2 H9 B2 ⟨hH, hW'⟩ _
 obtain rfl : Hf = H9 := hH.symm
 have hW : OSl Ty_api_Target 2 W2 [encT 4, encT 3, encT 2] B2 := hW'
 refine ⟨[W2], rfl, ⟨hW.one, trivial⟩, ?_⟩
 have hWS : (B2 ++ A').Perm (B2 ++ A') := List.Perm.refl _
 have hxf := hxf.le lf
 have hb := hb.le lf
 have hsT := hsT.le lf
 have hw1 := hw1.le lf
 clear hS' hW'
 obtain ⟨W, rfl⟩ : ∃ W, W = W2 := ⟨_, rfl⟩
 obtain ⟨B, rfl⟩ : ∃ B, B = B2 := ⟨_, rfl⟩
 obtain ⟨A, rfl⟩ : ∃ A, A = A' := ⟨_, rfl⟩
 repeat (first | refine chkN_den ?_ | refine chkV_den ?_ | refine chkP_den rfl ?_)
 refine newbox_den fun q4 => ?_
 repeat (first | refine chkN_den ?_ | refine chkV_den ?_ | refine chkP_den rfl ?_)
 refine call_append (rows := stRows sT 3) (news := [itRowJ 5]) (O1 := A) (O2 := B) (e := Ty_api_Item) (size := 5) (bytes := 56) (by kernel_rfl) (by simpa using hWS.trans List.perm_append_comm) hS (fun Hf _ hf => Sl.block1 (hf _ List.mem_cons_self) rfl ⟨rfl, rfl, rfl, rfl, rfl, trivial⟩) (by simp [stRows]) (by simp [stRows]) ?_
 intro S' A' H4 l4 hS'
 have hS : OSl Ty_api_Item 5 S' (stRows sT 4) A' := hS'
 have hxf := hxf.le l4
 have hb := hb.le l4
 have hsT := hsT.le l4
 have hw1 := hw1.le l4
 repeat (first | refine chkN_den ?_ | refine chkV_den ?_ | refine chkP_den rfl ?_)
 refine newbox_den fun q4' => ?_
 repeat (first | refine chkN_den ?_ | refine chkV_den ?_ | refine chkP_den rfl ?_)
 refine call_gk (B := A') (gz_one hW (by simpa using List.perm_append_comm)) fun Hf lf hf hWf => ⟨_, append_frzO (e := Ty_api_Target) (size := 2) (by kernel_rfl) (ad := ⟨q4', 0, none⟩) (rows := [encT 5]) (news := [encT 4, encT 3, encT 2]) (Sl.block1 (hf _ List.mem_cons_self) rfl ⟨rfl, rfl, trivial⟩) hWf (by simp) (by rw [show bytesOf PP Ty_api_Target = 16 by kernel_rfl]; simp) (by simp), ?_⟩
 rintro W2 H9 B2 ⟨hH, hW'⟩ _
 obtain rfl : Hf = H9 := hH.symm
 have hW : OSl Ty_api_Target 2 W2 [encT 5, encT 4, encT 3, encT 2] B2 := hW'
 refine ⟨[W2], rfl, ⟨hW.one, trivial⟩, ?_⟩
 have hWS : (B2 ++ A').Perm (B2 ++ A') := List.Perm.refl _
 have hxf := hxf.le lf
 have hb := hb.le lf
 have hsT := hsT.le lf
 have hw1 := hw1.le lf
 clear hS' hW'
 obtain ⟨W, rfl⟩ : ∃ W, W = W2 := ⟨_, rfl⟩
 obtain ⟨B, rfl⟩ : ∃ B, B = B2 := ⟨_, rfl⟩
 obtain ⟨A, rfl⟩ : ∃ A, A = A' := ⟨_, rfl⟩
 repeat (first | refine chkN_den ?_ | refine chkV_den ?_ | refine chkP_den rfl ?_)
 refine pure_den _ (geq_u _ _) ?_
 repeat (first | refine chkN_den ?_ | refine chkV_den ?_ | refine chkP_den rfl ?_)
 refine pure_den _ (eql_eq k 3) ?_
 repeat (first | refine chkN_den ?_ | refine chkV_den ?_ | refine chkP_den rfl ?_)
 refine pure_den _ (eql_eq k 4) ?_
 repeat (first | refine chkN_den ?_ | refine chkV_den ?_ | refine chkP_den rfl ?_)
 refine pure_den _ (pick_or _ _) ?_
 repeat (first | refine chkN_den ?_ | refine chkV_den ?_ | refine chkP_den rfl ?_)
 refine pure_den _ (pick_and _ _) (br_den (fun ho => ?_) (fun ho => ?_))
 ·have ho : okW k n h = true := ho
  repeat (first | refine chkN_den ?_ | refine chkV_den ?_ | refine chkP_den rfl ?_)
  refine newbox_den fun rX => ?_
  repeat (first | refine chkN_den ?_ | refine chkV_den ?_ | refine chkP_den rfl ?_)
  refine call_append (rows := [encT 5, encT 4, encT 3, encT 2]) (news := [encT 1]) (O1 := B) (O2 := A) (e := Ty_api_Target) (size := 2) (bytes := 16) (by kernel_rfl) (by simp) hW (fun Hf _ hf => Sl.block1 (hf _ List.mem_cons_self) rfl ⟨rfl, rfl, trivial⟩) (by simp) (by simp) ?_
  intro W' B' H4 l4 hW'
  have hW : OSl Ty_api_Target 2 W' [encT 5, encT 4, encT 3, encT 2, encT 1] B' := hW'
  have hWS : (B' ++ A).Perm (B' ++ A) := List.Perm.refl _
  have hxf := hxf.le l4
  have hb := hb.le l4
  have hsT := hsT.le l4
  have eT : ∀ {p : Int}, p = 0 ∨ p = 1 → listT (cdsW k n) (bdW 4 h) p 6 = tgs [5, 4, 3, 2, 1] := fun _ => by
   rw [show ∀ p, listT (cdsW k n) (bdW 4 h) p 6 = tgs (spellsT (cdsW k n) (bdW 4 h)) from fun _ => rfl, spellsW (by omega), if_pos ho]; rfl
  have eL : ∀ {p : Int}, p = 0 ∨ p = 1 → ListT (cdsW k n) (bdW 4 h) p 6 = tgs [5, 4, 3, 2, 1] := fun hp => by
   rw [listW (by omega) hh4 k n hp, if_pos ho]; rfl
  have hst : (bdW 4 h).stack.length ≤ 1000000 := by simp [bdW, itsW]
  repeat (first | refine chkN_den ?_ | refine chkV_den ?_ | refine chkP_den rfl ?_)
  refine call_gk (B := []) (gz_two hW hS hWS) fun Hf lf hf hphi => ?_
  obtain ⟨hWf, hSf⟩ := hphi
  have hcards : CardsS Hf (.slice (some ⟨r0, 0, none⟩) 2 2) (cdsW k n) := cardsW (hf _ List.mem_cons_self) (hxf.le lf)
  have hbd := bdsW (c := 4) (h := h) (hb.le lf) (hf _ (List.mem_cons_of_mem _ List.mem_cons_self)) (by omega) hSf (hsT.le lf)
  have hwv : Sl Hf 2 W' (tRows (tgs [5, 4, 3, 2, 1])) := hWf
  refine ⟨_, c_TList hcards (lightW hn4) hbd hst 0 6, ?_⟩
  rintro x1 H6 _ ⟨hx1, rfl⟩ l6
  refine ⟨[x1], rfl, ⟨hx1.one, trivial⟩, ?_⟩
  rw [eL (.inl rfl)] at hx1
  repeat (first | refine chkN_den ?_ | refine chkV_den ?_ | refine chkP_den rfl ?_)
  refine call_new0 (r_TSame (O := []) hx1 (hwv.le l6)) rfl ⟨rfl, trivial⟩ fun H7 l7 => pure_den _ (not_eq' _) (br_den (fun hd => by simp at hd) (fun _ => ?_))
  have hcards := hcards.le (Heap.le_trans l6 l7)
  have hbd := hbd.le (Heap.le_trans l6 l7)
  have hwv := hwv.le (Heap.le_trans l6 l7)
  repeat (first | refine chkN_den ?_ | refine chkV_den ?_ | refine chkP_den rfl ?_)
  refine newbox_den fun rA => ?_
  repeat (first | refine chkN_den ?_ | refine chkV_den ?_ | refine chkP_den rfl ?_)
  refine call_newF (shp := .one) (r := .bool (canT (cdsW k n) (bdW 4 h) 0 [6])) (vs := [.bool (canT (cdsW k n) (bdW 4 h) 0 [6])]) (fun Hg lg hg => c_Can (hcards.le lg) (lightW hn4) (hbd.le lg) hst 0 (eff_block (hg _ List.mem_cons_self)) (by simp)) rfl ⟨rfl, trivial⟩ fun H8 l8 => ?_
  rw [can_one (bdW_valid (by omega) hh4) (.inl rfl) (by decide), eT (.inl rfl)]
  have hcards := hcards.le l8
  have hbd := hbd.le l8
  have hwv := hwv.le l8
  have wlen := hwv.len
  rw [tRows_len] at wlen
  repeat (first | refine chkN_den ?_ | refine chkV_den ?_ | refine chkP_den rfl ?_)
  refine pure_den _ wlen ?_
  repeat (first | refine chkN_den ?_ | refine chkV_den ?_ | refine chkP_den rfl ?_)
  refine pure_den _ (gtr_eq _ _) ?_
  repeat (first | refine chkN_den ?_ | refine chkV_den ?_ | refine chkP_den rfl ?_)
  refine pure_den _ (bneq_eq _ _) (br_den (fun hd => by simp at hd) (fun _ => ?_))
  repeat (first | refine chkN_den ?_ | refine chkV_den ?_ | refine chkP_den rfl ?_)
  refine call_new (c_TList hcards (lightW hn4) hbd hst 1 6) ?_
  rintro x2 H9 _ ⟨hx2, rfl⟩ l9
  refine ⟨[x2], rfl, ⟨hx2.one, trivial⟩, ?_⟩
  rw [eL (.inr rfl)] at hx2
  repeat (first | refine chkN_den ?_ | refine chkV_den ?_ | refine chkP_den rfl ?_)
  refine call_new0 (r_TSame (O := []) hx2 (hwv.le l9)) rfl ⟨rfl, trivial⟩ fun H10 l10 => pure_den _ (not_eq' _) (br_den (fun hd => by simp at hd) (fun _ => ?_))
  have hcards := hcards.le (Heap.le_trans l9 l10)
  have hbd := hbd.le (Heap.le_trans l9 l10)
  have hwv := hwv.le (Heap.le_trans l9 l10)
  repeat (first | refine chkN_den ?_ | refine chkV_den ?_ | refine chkP_den rfl ?_)
  refine newbox_den fun rB => ?_
  repeat (first | refine chkN_den ?_ | refine chkV_den ?_ | refine chkP_den rfl ?_)
  refine call_newF (shp := .one) (r := .bool (canT (cdsW k n) (bdW 4 h) 1 [6])) (vs := [.bool (canT (cdsW k n) (bdW 4 h) 1 [6])]) (fun Hg lg hg => c_Can (hcards.le lg) (lightW hn4) (hbd.le lg) hst 1 (eff_block (hg _ List.mem_cons_self)) (by simp)) rfl ⟨rfl, trivial⟩ fun H11 l11 => ?_
  rw [can_one (bdW_valid (by omega) hh4) (.inr rfl) (by decide), eT (.inr rfl)]
  repeat (first | refine chkN_den ?_ | refine chkV_den ?_ | refine chkP_den rfl ?_)
  refine pure_den _ wlen ?_
  repeat (first | refine chkN_den ?_ | refine chkV_den ?_ | refine chkP_den rfl ?_)
  refine pure_den _ (gtr_eq _ _) ?_
  repeat (first | refine chkN_den ?_ | refine chkV_den ?_ | refine chkP_den rfl ?_)
  refine pure_den _ (bneq_eq _ _) (br_den (fun hd => by simp at hd) (fun _ => ?_))
  repeat (first | refine chkN_den ?_ | refine chkV_den ?_ | refine chkP_den rfl ?_)
  exact call_retO (c_knownT _ _) rfl ⟨rfl, trivial⟩ fun _ _ => ret_drop ⟨rfl, rfl⟩
 ·have ho : okW k n h = false := ho
  have eT : ∀ {p : Int}, p = 0 ∨ p = 1 → listT (cdsW k n) (bdW 4 h) p 6 = tgs [5, 4, 3, 2] := fun _ => by
   rw [show ∀ p, listT (cdsW k n) (bdW 4 h) p 6 = tgs (spellsT (cdsW k n) (bdW 4 h)) from fun _ => rfl, spellsW (by omega), if_neg (by rw [ho]; simp)]; rfl
  have eL : ∀ {p : Int}, p = 0 ∨ p = 1 → ListT (cdsW k n) (bdW 4 h) p 6 = tgs [5, 4, 3, 2] := fun hp => by
   rw [listW (by omega) hh4 k n hp, if_neg (by rw [ho]; simp)]; rfl
  have hst : (bdW 4 h).stack.length ≤ 1000000 := by simp [bdW, itsW]
  repeat (first | refine chkN_den ?_ | refine chkV_den ?_ | refine chkP_den rfl ?_)
  refine call_gk (B := []) (gz_two hW hS hWS) fun Hf lf hf hphi => ?_
  obtain ⟨hWf, hSf⟩ := hphi
  have hcards : CardsS Hf (.slice (some ⟨r0, 0, none⟩) 2 2) (cdsW k n) := cardsW (hf _ List.mem_cons_self) (hxf.le lf)
  have hbd := bdsW (c := 4) (h := h) (hb.le lf) (hf _ (List.mem_cons_of_mem _ List.mem_cons_self)) (by omega) hSf (hsT.le lf)
  have hwv : Sl Hf 2 W (tRows (tgs [5, 4, 3, 2])) := hWf
  refine ⟨_, c_TList hcards (lightW hn4) hbd hst 0 6, ?_⟩
  rintro x1 H6 _ ⟨hx1, rfl⟩ l6
  refine ⟨[x1], rfl, ⟨hx1.one, trivial⟩, ?_⟩
  rw [eL (.inl rfl)] at hx1
  repeat (first | refine chkN_den ?_ | refine chkV_den ?_ | refine chkP_den rfl ?_)
  refine call_new0 (r_TSame (O := []) hx1 (hwv.le l6)) rfl ⟨rfl, trivial⟩ fun H7 l7 => pure_den _ (not_eq' _) (br_den (fun hd => by simp at hd) (fun _ => ?_))
  have hcards := hcards.le (Heap.le_trans l6 l7)
  have hbd := hbd.le (Heap.le_trans l6 l7)
  have hwv := hwv.le (Heap.le_trans l6 l7)
  repeat (first | refine chkN_den ?_ | refine chkV_den ?_ | refine chkP_den rfl ?_)
  refine newbox_den fun rA => ?_
  repeat (first | refine chkN_den ?_ | refine chkV_den ?_ | refine chkP_den rfl ?_)
  refine call_newF (shp := .one) (r := .bool (canT (cdsW k n) (bdW 4 h) 0 [6])) (vs := [.bool (canT (cdsW k n) (bdW 4 h) 0 [6])]) (fun Hg lg hg => c_Can (hcards.le lg) (lightW hn4) (hbd.le lg) hst 0 (eff_block (hg _ List.mem_cons_self)) (by simp)) rfl ⟨rfl, trivial⟩ fun H8 l8 => ?_
  rw [can_one (bdW_valid (by omega) hh4) (.inl rfl) (by decide), eT (.inl rfl)]
  have hcards := hcards.le l8
  have hbd := hbd.le l8
  have hwv := hwv.le l8
  have wlen := hwv.len
  rw [tRows_len] at wlen
  repeat (first | refine chkN_den ?_ | refine chkV_den ?_ | refine chkP_den rfl ?_)
  refine pure_den _ wlen ?_
  repeat (first | refine chkN_den ?_ | refine chkV_den ?_ | refine chkP_den rfl ?_)
  refine pure_den _ (gtr_eq _ _) ?_
  repeat (first | refine chkN_den ?_ | refine chkV_den ?_ | refine chkP_den rfl ?_)
  refine pure_den _ (bneq_eq _ _) (br_den (fun hd => by simp at hd) (fun _ => ?_))
  repeat (first | refine chkN_den ?_ | refine chkV_den ?_ | refine chkP_den rfl ?_)
  refine call_new (c_TList hcards (lightW hn4) hbd hst 1 6) ?_
  rintro x2 H9 _ ⟨hx2, rfl⟩ l9
  refine ⟨[x2], rfl, ⟨hx2.one, trivial⟩, ?_⟩
  rw [eL (.inr rfl)] at hx2
  repeat (first | refine chkN_den ?_ | refine chkV_den ?_ | refine chkP_den rfl ?_)
  refine call_new0 (r_TSame (O := []) hx2 (hwv.le l9)) rfl ⟨rfl, trivial⟩ fun H10 l10 => pure_den _ (not_eq' _) (br_den (fun hd => by simp at hd) (fun _ => ?_))
  have hcards := hcards.le (Heap.le_trans l9 l10)
  have hbd := hbd.le (Heap.le_trans l9 l10)
  have hwv := hwv.le (Heap.le_trans l9 l10)
  repeat (first | refine chkN_den ?_ | refine chkV_den ?_ | refine chkP_den rfl ?_)
  refine newbox_den fun rB => ?_
  repeat (first | refine chkN_den ?_ | refine chkV_den ?_ | refine chkP_den rfl ?_)
  refine call_newF (shp := .one) (r := .bool (canT (cdsW k n) (bdW 4 h) 1 [6])) (vs := [.bool (canT (cdsW k n) (bdW 4 h) 1 [6])]) (fun Hg lg hg => c_Can (hcards.le lg) (lightW hn4) (hbd.le lg) hst 1 (eff_block (hg _ List.mem_cons_self)) (by simp)) rfl ⟨rfl, trivial⟩ fun H11 l11 => ?_
  rw [can_one (bdW_valid (by omega) hh4) (.inr rfl) (by decide), eT (.inr rfl)]
  repeat (first | refine chkN_den ?_ | refine chkV_den ?_ | refine chkP_den rfl ?_)
  refine pure_den _ wlen ?_
  repeat (first | refine chkN_den ?_ | refine chkV_den ?_ | refine chkP_den rfl ?_)
  refine pure_den _ (gtr_eq _ _) ?_
  repeat (first | refine chkN_den ?_ | refine chkV_den ?_ | refine chkP_den rfl ?_)
  refine pure_den _ (bneq_eq _ _) (br_den (fun hd => by simp at hd) (fun _ => ?_))
  repeat (first | refine chkN_den ?_ | refine chkV_den ?_ | refine chkP_den rfl ?_)
  exact call_retO (c_knownT _ _) rfl ⟨rfl, trivial⟩ fun _ _ => ret_drop ⟨rfl, rfl⟩
end Go.Proofs.Ytbaegnnmedjkmaa
namespace Go.Proofs.Ytbaegnnmedjkmaa
open Go Go.Sx
set_option maxRecDepth 100000
set_option maxHeartbeats 1000000
theorem waits_true {H : Heap} {n h a : Int} (hn : 0 ≤ n ∧ n ≤ 255) (hh : 0 ≤ h ∧ h ≤ 255) (k : Int) (ha : 0 ≤ a ∧ a ≤ 255) :
  Triple PP F_zeitnotlaw16_TargetWaits [.int .u8 n, .int .u8 h, iV k, .int .u8 a] H [] fun r _ O' => r = .bool true ∧ O' = [] := by
 by_cases h4 : a ≤ 4
 ·obtain rfl | rfl | rfl | rfl | rfl : a = 0 ∨ a = 1 ∨ a = 2 ∨ a = 3 ∨ a = 4 := by omega
  ·exact waits_0 hn hh k
  ·exact waits_1 hn hh k
  ·exact waits_2 hn hh k
  ·exact waits_3 hn hh k
  ·exact waits_4 hn hh k
 refine run_waits_g (vs := [.int .u8 n, .int .u8 h, iV k, .int .u8 a]) (by kernel_rfl) ⟨rfl, rfl, rfl, rfl, trivial⟩ ?_
 simp only [T_waits_g]
 refine pure_den _ (gtr_u _ _) ?_
 repeat (first | refine chkN_den ?_ | refine chkV_den ?_ | refine chkP_den rfl ?_)
 refine pure_den _ (gtr_u _ _) ?_
 repeat (first | refine chkN_den ?_ | refine chkV_den ?_ | refine chkP_den rfl ?_)
 refine pure_den _ (pick_or _ _) ?_
 repeat (first | refine chkN_den ?_ | refine chkV_den ?_ | refine chkP_den rfl ?_)
 refine pure_den _ (gtr_u _ _) ?_
 repeat (first | refine chkN_den ?_ | refine chkV_den ?_ | refine chkP_den rfl ?_)
 refine pure_den _ (pick_or _ _) (br_den (fun _ => ?_) (fun hc => ?_))
 ·repeat (first | refine chkN_den ?_ | refine chkV_den ?_ | refine chkP_den rfl ?_)
  exact call_retO (c_knownT _ []) rfl ⟨rfl, trivial⟩ fun _ _ => ret_denO ⟨rfl, rfl⟩
 ·exfalso
  have hc : ((decide (n > 4) || decide (h > 4)) || decide (a > 4)) = false := hc
  simp at hc
  omega
end Go.Proofs.Ytbaegnnmedjkmaa
