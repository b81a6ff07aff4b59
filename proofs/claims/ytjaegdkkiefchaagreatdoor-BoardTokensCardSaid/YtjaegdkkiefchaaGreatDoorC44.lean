/- The reference's Token. -/
import Derived.Test.YtjaegdkkiefchaaGreatDoorC38
import Derived.Test.YtjaegdkkiefchaaGreatDoorM4
namespace Go.Proofs.YtjaegdkkiefchaaGreatDoor
open Go Go.Sx
set_option maxRecDepth 100000
set_option maxHeartbeats 1000000
theorem len_le : ∀ (l : List Ob) (m : Nat), m ≤ 500 → (l.map (·.id)).Pairwise (· < ·) → (∀ o ∈ l, (m : Int) < o.id ∧ o.id ≤ 500) → l.length + m ≤ 500
 | [], m, h, _, _ => by simpa using h
 | o :: l, m, h, hp, hm => by
  rw [List.map_cons, List.pairwise_cons] at hp
  obtain ⟨h1, h2⟩ := hm o List.mem_cons_self
  have := len_le l (m + 1) (by omega) hp.2 fun x hx => by
   have h3 := hp.1 _ (List.mem_map_of_mem hx)
   have h4 := (hm x (List.mem_cons_of_mem _ hx)).2
   omega
  rw [List.length_cons]; omega
theorem valid_500 {b : Bd} (h : validBd b = true) : b.objs.length ≤ 500 :=
 len_le b.objs 0 (by omega) (ord_pairwise (placed_objs (valid_parts h).1).1) fun o ho => by have := (valid_ids h).1 o ho; omega
theorem idx_low {b : Bd} (h : validBd b = true) {i : Nat} (hi : i < freeN b) : idxO b ((i : Int) + 1) = i := by
 have := (free_spec h).2.1 i hi
 simp only [Option.map_eq_some_iff] at this
 obtain ⟨o, ho, he⟩ := this
 rw [← he]
 exact (obj_known (valid_parts h).1 ho).2.2.1
theorem idx_free {b : Bd} (h : validBd b = true) : idxO b ((freeN b : Int) + 1) < 0 := by
 refine Decidable.byContradiction fun hn => ?_
 obtain ⟨k, o, e1, e2, _⟩ := idxO_some hn
 exact (free_spec h).2.2 o (List.mem_of_getElem? e1) e2
theorem call_frozenL {P : Program} {f : FuncId} {args : List Value} {H : Heap} {O : Own} {e : TypeId} {size : Nat} {x : Value} {rows : List (List Value)} {R : Value → Heap → Own → Prop} {shp : Shp} {K : List Value → List (List Value) → Heap → Own → Prop}
  (hx : OSl e size x rows O) (h : ∀ Hf, Heap.le H Hf → Sl Hf size x rows → Triple P f args Hf [] R) (hk : ∀ v H' , R v H' [] → Heap.le H H' → ∃ vs, shp.open v = some vs ∧ Ones vs ∧ K vs [] H' []) (hR : ∀ v H' O', R v H' O' → O' = [] := by rintro _ _ _ ⟨_, rfl⟩; rfl) :
  CallD (fun H1 O1 R => Triple P f args H1 O1 R) false [] [] shp K H O := by
 intro hc
 obtain ⟨Hf, g, hs, hl⟩ := hx.freeze (X := []) (by simpa using hc)
 refine ⟨Hf, [], [], R, (by rw [List.append_nil] at g; exact g : Ghost H O Hf []), h Hf hl hs, fun v H' O' hr hle => ?_⟩
 obtain rfl := hR v H' O' hr
 obtain ⟨vs, h1, h2, h3⟩ := hk v H' hr (Heap.le_trans hl hle)
 exact ⟨vs, [], [], h1, h2, trivial, rfl, h3⟩
def rTokV (b : Bd) (p pw tn most : Int) : Bd × Int :=
 if (decide ((b.objs.length : Int) ≥ most) || decide ((freeN b : Int) + 1 > 500)) = true then (b, 0) else (tokB b (freeN b) p pw tn, (freeN b : Int) + 1)
theorem r_Token {H : Heap} {v : BV12} {b : Bd} (h : BdS H v b) (hB : bdB b) (hval : validBd b = true) {p : Int} (hp : p = 0 ∨ p = 1) (pw tn most : Int) :
  Triple PP F_zeitnotref15_Token [.agg (boardC v b).toArray, iV p, iV pw, iV tn, iV most] H [] fun r H' O' => (∃ w, r = .tuple #[.agg (boardC w (rTokV b p pw tn most).1).toArray, iV (rTokV b p pw tn most).2] ∧ BdS H' w (rTokV b p pw tn most).1) ∧ O' = [] := by
 refine run_zeitnotref15_Token (vs := boardC v b ++ [iV p, iV pw, iV tn, iV most]) (by kernel_rfl) (ones_app (boardC_ones (h.r [])) ⟨rfl, rfl, rfl, rfl, trivial⟩) ?_
 simp only [T_zeitnotref15_Token]
 have hf := free_spec hval
 have h5 := valid_500 hval
 refine newbox_den fun r0 => newbox_den fun r1 => ?_
 repeat (first | refine chkN_den ?_ | refine chkV_den ?_ | refine chkP_den rfl ?_)
 refine call_new (Triple.frozen (r_Copy h hB)) ?_
 rintro _ H1 _ ⟨⟨w, rfl, hw⟩, rfl⟩ l1
 refine ⟨boardC w b, rfl, boardC_ones (hw.r []), ?_⟩
 repeat (first | refine chkN_den ?_ | refine chkV_den ?_ | refine chkP_den rfl ?_)
 refine loop_den (fun vs H' O' => ∃ i : Nat, vs = [iV ((i : Int) + 1)] ∧ i ≤ freeN b ∧ Heap.le H1 H' ∧ O' = []) (fun vs _ _ => match g vs 0 with | .int _ k => freeN b + 1 - k.toNat | _ => 0) ⟨0, rfl, Nat.zero_le _, Heap.le_refl _, rfl⟩ ?_
 rintro vs H2 O2 _ _ _ ⟨i, rfl, hi, hle, rfl⟩
 replace hw := hw.le hle
 repeat (first | refine chkN_den ?_ | refine chkV_den ?_ | refine chkP_den rfl ?_)
 refine call_retO (r_Index (hw.r _) ((i : Int) + 1)) rfl ⟨rfl, trivial⟩ fun H3 l3 => ?_
 repeat (first | refine chkN_den ?_ | refine chkV_den ?_ | refine chkP_den rfl ?_)
 refine pure_den _ (geq_eq _ _) (br_den (fun hb => ?_) (fun hb => ?_))
 ·have hlt : i < freeN b := by
   refine Nat.lt_of_le_of_ne hi fun e => ?_
   subst e
   have := idx_free hval
   have hb : idxO b ((freeN b : Int) + 1) ≥ 0 := by simpa using hb
   omega
  repeat (first | refine chkN_den ?_ | refine chkV_den ?_ | refine chkP_den rfl ?_)
  refine pure_den (iV (((i + 1 : Nat) : Int) + 1)) (add_fit (x := (i : Int) + 1) (y := 1) (by omega) (by omega)) (cont_den (by simp [Eqs]) ⟨i + 1, rfl, hlt, Heap.le_trans hle l3, rfl⟩ ?_)
  show freeN b + 1 - (((i + 1 : Nat) : Int) + 1).toNat < freeN b + 1 - ((i : Int) + 1).toNat
  omega
 ·have hil : i = freeN b := by
   refine Nat.le_antisymm hi (Nat.le_of_not_lt fun hlt => ?_)
   have := idx_low hval hlt
   have hb : ¬ idxO b ((i : Int) + 1) ≥ 0 := by simpa using hb
   omega
  subst hil
  replace hw := hw.le l3
  have hlen : evalPure .len [w.o] = some (iV b.objs.length) := by have := hw.objs.len; rwa [List.length_map] at this
  repeat (first | refine chkN_den ?_ | refine chkV_den ?_ | refine chkP_den rfl ?_)
  refine pure_den _ hlen ?_
  repeat (first | refine chkN_den ?_ | refine chkV_den ?_ | refine chkP_den rfl ?_)
  refine pure_den _ (geq_eq _ _) ?_
  repeat (first | refine chkN_den ?_ | refine chkV_den ?_ | refine chkP_den rfl ?_)
  refine pure_den _ (gtr_eq _ _) ?_
  repeat (first | refine chkN_den ?_ | refine chkV_den ?_ | refine chkP_den rfl ?_)
  refine pure_den _ (pick_or _ _) (br_den (fun hb => ?_) (fun hb => ?_))
  ·have e : rTokV b p pw tn most = (b, 0) := by rw [rTokV, if_pos hb]
   repeat (first | refine chkN_den ?_ | refine chkV_den ?_ | refine chkP_den rfl ?_)
   refine ret_denO ⟨⟨w, ?_, ?_⟩, rfl⟩
   ·rw [e]; rfl
   ·rw [e]; exact hw
  have e : rTokV b p pw tn most = (tokB b (freeN b) p pw tn, (freeN b : Int) + 1) := by rw [rTokV, if_neg (by rw [hb]; simp)]
  repeat (first | refine chkN_den ?_ | refine chkV_den ?_ | refine chkP_den rfl ?_)
  refine call_retO (r_Add pw) rfl ⟨rfl, trivial⟩ fun H4 l4 => ?_
  repeat (first | refine chkN_den ?_ | refine chkV_den ?_ | refine chkP_den rfl ?_)
  refine call_retO (r_Add tn) rfl ⟨rfl, trivial⟩ fun H5 l5 => ?_
  replace hw := hw.le (Heap.le_trans l4 l5)
  repeat (first | refine chkN_den ?_ | refine chkV_den ?_ | refine chkP_den rfl ?_)
  refine newbox_den fun r2 => ?_
  have hs1 : evalPure (.bin .sub .int) [iV ((freeN b : Int) + 1), iV 1] = some (iV (freeN b : Int)) := by
   rw [show (iV (freeN b : Int)) = iV ((freeN b : Int) + 1 - 1) by congr 1; omega]; exact sub_fit (by omega) (by omega)
  obtain ⟨u1, e1, s1⟩ := hw.objs.from (i := freeN b) (by rw [List.length_map]; exact hf.1)
  obtain ⟨u2, e2, s2⟩ := hw.objs.upto (i := freeN b) (by rw [List.length_map]; exact hf.1)
  repeat (first | refine chkN_den ?_ | refine chkV_den ?_ | refine chkP_den rfl ?_)
  refine pure_den _ hs1 ?_
  repeat (first | refine chkN_den ?_ | refine chkV_den ?_ | refine chkP_den rfl ?_)
  refine pure_den _ e1 ?_
  repeat (first | refine chkN_den ?_ | refine chkV_den ?_ | refine chkP_den rfl ?_)
  refine newbox_den fun r3 => ?_
  repeat (first | refine chkN_den ?_ | refine chkV_den ?_ | refine chkP_den rfl ?_)
  refine call_append_frz (ad := ⟨r3, 0, none⟩) (rows := [(tokO ((freeN b : Int) + 1) p pw tn true).row]) (news := (b.objs.map Ob.row).drop (freeN b)) (size := 12) (e := Ty_api_Object) (by kernel_rfl) (fun Hf _ hf => Sl.block1 (hf _ List.mem_cons_self) rfl (ob_ones _)) s1 (by rw [show bytesOf PP Ty_api_Object = 80 by kernel_rfl]; simp; omega) (by simp; omega) fun v1 H6 l6 hv1 => ?_
  repeat (first | refine chkN_den ?_ | refine chkV_den ?_ | refine chkP_den rfl ?_)
  refine pure_den _ hs1 ?_
  repeat (first | refine chkN_den ?_ | refine chkV_den ?_ | refine chkP_den rfl ?_)
  refine pure_den _ e2 ?_
  repeat (first | refine chkN_den ?_ | refine chkV_den ?_ | refine chkP_den rfl ?_)
  refine app_new (e := Ty_api_Object) (size := 12) (bytes := 80) (by kernel_rfl) (s2.le l6) (by simp; omega) (by simp; omega) fun xa Oa H7 lA pa => ?_
  repeat (first | refine chkN_den ?_ | refine chkV_den ?_ | refine chkP_den rfl ?_)
  refine call_append (rows := (b.objs.map Ob.row).take (freeN b)) (news := [(tokO ((freeN b : Int) + 1) p pw tn true).row] ++ (b.objs.map Ob.row).drop (freeN b)) (O1 := Oa) (O2 := []) (e := Ty_api_Object) (size := 12) (bytes := 80) (by kernel_rfl) (by simp) pa (fun Hf lf _ => (hv1.le lA).le lf) (by simp; omega) (by simp; omega) ?_
  intro v' A' H8 l8 hA'
  rw [List.append_nil]
  have lz := Heap.le_trans l6 (Heap.le_trans lA l8)
  replace hw := hw.le lz
  have hA2 : OSl Ty_api_Object 12 v' (List.map Ob.row (b.objs.take (freeN b) ++ [tokO ((freeN b : Int) + 1) p pw tn true] ++ b.objs.drop (freeN b))) A' := by
   rw [List.append_assoc, List.map_append, List.map_append, List.map_take, List.map_drop]
   exact hA'
  have hB2 : bdB { b with objs := b.objs.take (freeN b) ++ [tokO ((freeN b : Int) + 1) p pw tn true] ++ b.objs.drop (freeN b) } := ⟨by simp; omega, hB.2⟩
  repeat (first | refine chkN_den ?_ | refine chkV_den ?_ | refine chkP_den rfl ?_)
  refine call_frozenL hA2 (fun Hf lf hs => r_Put (v := { w with o := v' }) (b := { b with objs := b.objs.take (freeN b) ++ [tokO ((freeN b : Int) + 1) p pw tn true] ++ b.objs.drop (freeN b) }) ⟨hs, (hw.le lf).s0, (hw.le lf).s1, (hw.le lf).stack, (hw.le lf).queue, (hw.le lf).att, (hw.le lf).blocks⟩ hB2 (tokO ((freeN b : Int) + 1) p pw tn true) hp 2) ?_
  rintro _ H9 ⟨⟨w2, rfl, hw2⟩, -⟩ l9
  refine ⟨boardC w2 (tokB b (freeN b) p pw tn), rfl, boardC_ones (hw2.r []), ?_⟩
  repeat (first | refine chkN_den ?_ | refine chkV_den ?_ | refine chkP_den rfl ?_)
  refine ret_denO ⟨⟨w2, ?_, ?_⟩, rfl⟩
  ·rw [e]; rfl
  ·rw [e]; exact hw2
end Go.Proofs.YtjaegdkkiefchaaGreatDoor
namespace Go.Proofs.YtjaegdkkiefchaaGreatDoor
open Go Go.Sx
set_option maxRecDepth 100000
set_option maxHeartbeats 1000000
/-- How long the lists of a board may be after n tokens. -/
def stGrow (n : Nat) (s : St) : Prop := s.lib.length ≤ 100 + n ∧ s.hand.length ≤ 100 + n ∧ s.field.length ≤ 100 + n ∧ s.grave.length ≤ 100 + n
def growB (n : Nat) (b : Bd) : Prop := b.objs.length ≤ 100 + n ∧ stGrow n b.s0 ∧ stGrow n b.s1 ∧ itsB b.stack ∧ itsB b.queue ∧ b.stack.length ≤ 100000 ∧ b.att.length ≤ 1000000 ∧ b.blocks.length ≤ 1000000
theorem small_grow {b : Bd} (h : smallBd b = true) : growB 0 b := by
 have hB := small_B h
 simp only [smallBd, stSmall, itsSmall, Bool.and_eq_true, Bool.not_eq_true', decide_eq_true_eq, decide_eq_false_iff_not] at h
 obtain ⟨⟨a1, a2, a3, a4⟩, ⟨a5, a6, a7, a8⟩, ⟨a9, a10⟩, ⟨a11, a12⟩, ⟨a13, a14⟩, a15⟩ := h
 obtain ⟨_, _, _, b1, b2, b3, b4⟩ := hB
 exact ⟨by omega, ⟨by omega, by omega, by omega, by omega⟩, ⟨by omega, by omega, by omega, by omega⟩, b1, b2, by omega, b3, b4⟩
theorem grow_B {n : Nat} {b : Bd} (h : growB n b) (hn : n ≤ 8) : bdB b := by
 obtain ⟨h1, ⟨a1, a2, a3, a4⟩, ⟨a5, a6, a7, a8⟩, b1, b2, b3, b4, b5⟩ := h
 exact ⟨by omega, ⟨by omega, by omega, by omega, by omega⟩, ⟨by omega, by omega, by omega, by omega⟩, b1, b2, b4, b5⟩
theorem grow_fit {n : Nat} {b : Bd} (h : growB n b) (hn : n ≤ 8) : bdFit b := by
 obtain ⟨h1, ⟨a1, a2, a3, a4⟩, ⟨a5, a6, a7, a8⟩, b1, b2, b3, b4, b5⟩ := h
 exact ⟨⟨by omega, by omega, by omega, by omega⟩, ⟨by omega, by omega, by omega, by omega⟩, b3⟩
theorem stGrow_up {n : Nat} {s : St} (h : stGrow n s) : stGrow (n + 1) s := by
 obtain ⟨a1, a2, a3, a4⟩ := h
 exact ⟨by omega, by omega, by omega, by omega⟩
theorem grow_up {n : Nat} {b : Bd} (h : growB n b) : growB (n + 1) b := by
 obtain ⟨h1, h2, h3, hr⟩ := h
 exact ⟨by omega, stGrow_up h2, stGrow_up h3, hr⟩
theorem grow_tok {n : Nat} {b : Bd} (h : growB n b) {p : Int} (hp : p = 0 ∨ p = 1) (m : Nat) (pw tn : Int) : growB (n + 1) (tokB b m p pw tn) := by
 obtain ⟨h1, h2, h3, hr⟩ := h
 have ho : (b.objs.take m ++ [tokO ((m : Int) + 1) p pw tn true] ++ b.objs.drop m).length ≤ 100 + (n + 1) := by
  rw [List.length_append, List.length_append, List.length_take, List.length_drop, List.length_singleton]; omega
 rcases hp with rfl | rfl
 ·refine ⟨ho, ?_, stGrow_up h3, hr⟩
  obtain ⟨a1, a2, a3, a4⟩ := h2
  refine ⟨by show b.s0.lib.length ≤ _; omega, by show b.s0.hand.length ≤ _; omega, ?_, by show b.s0.grave.length ≤ _; omega⟩
  show (b.s0.field ++ [(m : Int) + 1]).length ≤ _
  rw [List.length_append, List.length_singleton]; omega
 ·refine ⟨ho, stGrow_up h2, ?_, hr⟩
  obtain ⟨a1, a2, a3, a4⟩ := h3
  refine ⟨by show b.s1.lib.length ≤ _; omega, by show b.s1.hand.length ≤ _; omega, ?_, by show b.s1.grave.length ≤ _; omega⟩
  show (b.s1.field ++ [(m : Int) + 1]).length ≤ _
  rw [List.length_append, List.length_singleton]; omega
theorem grow_rTok {n : Nat} {b : Bd} (h : growB n b) {p : Int} (hp : p = 0 ∨ p = 1) (pw tn most : Int) : growB (n + 1) (rTokV b p pw tn most).1 := by
 rw [rTokV]
 split
 ·exact grow_up h
 ·exact grow_tok h hp _ _ _
/-- Both are the same. -/
theorem tok_eq {b : Bd} (hval : validBd b = true) {p : Int} (hp : p = 0 ∨ p = 1) (pw tn most : Int) : tokV b p pw tn most = ((rTokV b p pw tn most).1, (rTokV b p pw tn most).2, 0) := by
 have hw : withinB p 0 1 = true := by simp only [withinB, decide_eq_true_eq]; omega
 rw [tokV, if_neg (by rw [hval, hw]; simp), rTokV]
 by_cases h1 : (b.objs.length : Int) ≥ most
 ·rw [if_pos h1, if_pos (by rw [decide_eq_true h1]; rfl)]
 ·rw [if_neg h1]
  by_cases h2 : 500 ≤ freeN b
  ·rw [if_pos h2, if_pos (by rw [decide_eq_true (show (freeN b : Int) + 1 > 500 by omega), Bool.or_true])]
  ·rw [if_neg h2, if_neg (by rw [decide_eq_false h1, decide_eq_false (show ¬ (freeN b : Int) + 1 > 500 by omega)]; simp)]
theorem tok_bad {b : Bd} {p : Int} (h : (validBd b && withinB p 0 1) = false) (pw tn most : Int) : tokV b p pw tn most = (zBd, 0, 2) := by
 rw [tokV, if_pos]
 cases hv : validBd b
 ·rfl
 ·rw [hv, Bool.true_and] at h; rw [h]; rfl
theorem tokens_true {H : Heap} (hgl : GlobOk glob0 H) {cv : Value} {ks : List Int} (hk : KindS H cv ks) {v : BV12} {b : Bd} (h : BdS H v b) (p : Int) {lv : Value} {l : List Int} (hl : Sl H 1 lv (ints l)) (hli : ∀ x ∈ l, i64 x) (most : Int) :
  Triple PP F_zeitnotlaw15_BoardTokens [cv, .agg (boardC v b).toArray, iV p, lv, iV most] H [] fun r _ O' => r = .bool true ∧ O' = [] := by
 refine run_zeitnotlaw15_BoardTokens (vs := cv :: (boardC v b ++ [iV p, lv, iV most])) (by kernel_rfl) ⟨hk.one, ones_app (boardC_ones (h.r [])) ⟨rfl, hl.one, rfl, trivial⟩⟩ ?_
 simp only [T_zeitnotlaw15_BoardTokens]
 have klen : evalPure .len [cv] = some (iV ks.length) := by
  obtain ⟨⟨_, _, h2, _⟩, _⟩ := look_den (O := []) hk 0
  exact h2
 have llen : evalPure .len [lv] = some (iV l.length) := by have := hl.len; rwa [ints, List.length_map] at this
 refine newbox_den fun r0 => ?_
 repeat (first | refine chkN_den ?_ | refine chkV_den ?_ | refine chkP_den rfl ?_)
 refine pure_den _ klen ?_
 repeat (first | refine chkN_den ?_ | refine chkV_den ?_ | refine chkP_den rfl ?_)
 refine pure_den _ (gtr_eq _ _) (br_den (fun _ => ?_) (fun _ => ?_))
 ·repeat (first | refine chkN_den ?_ | refine chkV_den ?_ | refine chkP_den rfl ?_)
  exact call_retO (c_known hgl []) rfl ⟨rfl, trivial⟩ fun H2 l2 => ret_denO ⟨rfl, rfl⟩
 repeat (first | refine chkN_den ?_ | refine chkV_den ?_ | refine chkP_den rfl ?_)
 refine call_retO (c_small (h.r [])) rfl ⟨rfl, trivial⟩ fun H1 l1 => ?_
 repeat (first | refine chkN_den ?_ | refine chkV_den ?_ | refine chkP_den rfl ?_)
 refine pure_den _ (not_eq' _) ?_
 repeat (first | refine chkN_den ?_ | refine chkV_den ?_ | refine chkP_den rfl ?_)
 refine pure_den _ llen ?_
 repeat (first | refine chkN_den ?_ | refine chkV_den ?_ | refine chkP_den rfl ?_)
 refine pure_den _ (gtr_eq _ _) ?_
 repeat (first | refine chkN_den ?_ | refine chkV_den ?_ | refine chkP_den rfl ?_)
 refine pure_den _ (pick_or _ _) (br_den (fun _ => ?_) (fun hsm => ?_))
 ·repeat (first | refine chkN_den ?_ | refine chkV_den ?_ | refine chkP_den rfl ?_)
  exact call_retO (c_known (hgl.le l1) []) rfl ⟨rfl, trivial⟩ fun H2 l2 => ret_denO ⟨rfl, rfl⟩
 have hsm : (!smallBd b || decide ((l.length : Int) > 8)) = false := hsm
 rw [Bool.or_eq_false_iff] at hsm
 have sa := notF hsm.1
 have hl8 : l.length ≤ 8 := by have := of_decide_eq_false hsm.2; omega
 repeat (first | refine chkN_den ?_ | refine chkV_den ?_ | refine chkP_den rfl ?_)
 refine loop_den (fun vs H' O' => ∃ (i : Nat) (vv : BV12) (bb : Bd), vs = iV (i : Int) :: boardC vv bb ∧ i ≤ l.length ∧ Heap.le H H' ∧ BdS H' vv bb ∧ growB i bb ∧ O' = []) (fun vs _ _ => match g vs 0 with | .int _ k => l.length + 1 - k.toNat | _ => 0) ⟨0, v, b, rfl, Nat.zero_le _, l1, h.le l1, small_grow sa, rfl⟩ ?_
 rintro _ H2 O2 _ _ _ ⟨i, vv, bb, rfl, hi, hle, hbb, hg, rfl⟩
 have hB := grow_B hg (by omega)
 have hfit := grow_fit hg (by omega)
 repeat (first | refine chkN_den ?_ | refine chkV_den ?_ | refine chkP_den rfl ?_)
 refine pure_den _ llen ?_
 repeat (first | refine chkN_den ?_ | refine chkV_den ?_ | refine chkP_den rfl ?_)
 refine pure_den _ (leq_eq _ _) (br_den (fun _ => ?_) (fun hb => by simp at hb; omega))
 repeat (first | refine chkN_den ?_ | refine chkV_den ?_ | refine chkP_den rfl ?_)
 refine loop_den (fun vs H' O' => ∃ j : Nat, vs = [iV ((j : Int) - 1)] ∧ j ≤ 4 ∧ Heap.le H2 H' ∧ O' = []) (fun vs _ _ => match g vs 0 with | .int _ k => 4 - (k + 1).toNat | _ => 0) ⟨0, rfl, by omega, Heap.le_refl _, rfl⟩ ?_
 rintro _ H3 O3 _ _ _ ⟨j, rfl, hj, hle3, rfl⟩
 replace hbb := hbb.le hle3
 have hleA := Heap.le_trans hle hle3
 repeat (first | refine chkN_den ?_ | refine chkV_den ?_ | refine chkP_den rfl ?_)
 refine pure_den _ (leq_eq _ _) (br_den (fun hb => ?_) (fun hb => ?_))
 ·have hj3 : j < 4 := by simp at hb; omega
  repeat (first | refine chkN_den ?_ | refine chkV_den ?_ | refine chkP_den rfl ?_)
  refine call_retO (r_Valid (hbb.r _) hfit) rfl ⟨rfl, trivial⟩ fun H4 l4 => ?_
  replace hbb := hbb.le l4
  rw [valid_eq]
  repeat (first | refine chkN_den ?_ | refine chkV_den ?_ | refine chkP_den rfl ?_)
  refine pure_den _ (eql_eq _ _) ?_
  repeat (first | refine chkN_den ?_ | refine chkV_den ?_ | refine chkP_den rfl ?_)
  refine pure_den _ (eql_eq _ _) ?_
  repeat (first | refine chkN_den ?_ | refine chkV_den ?_ | refine chkP_den rfl ?_)
  refine pure_den _ (pick_or _ _) ?_
  repeat (first | refine chkN_den ?_ | refine chkV_den ?_ | refine chkP_den rfl ?_)
  refine pure_den _ (pick_and _ _) (br_den (fun hc => ?_) (fun hc => ?_))
  ·rw [Bool.and_eq_true, Bool.or_eq_true, beq_iff_eq, beq_iff_eq] at hc
   obtain ⟨hval, hp⟩ := hc
   repeat (first | refine chkN_den ?_ | refine chkV_den ?_ | refine chkP_den rfl ?_)
   refine call_new (r_Creatures (hk.le (Heap.le_trans hleA l4)) hbb hB ((j : Int) - 1) hp fun q hq id hid => ?_) ?_
   ·subst hq
    obtain ⟨k, o, _, _, _, e4⟩ := field_there hval hp hid
    omega
   rintro x5 H5 _ ⟨hx5, rfl⟩ l5
   refine ⟨[x5], rfl, ⟨hx5.one, trivial⟩, ?_⟩
   repeat (first | refine chkN_den ?_ | refine chkV_den ?_ | refine chkP_den rfl ?_)
   refine call_new (c_Creatures (hk.le (Heap.le_trans (Heap.le_trans hleA l4) l5)) (hbb.le l5) ((j : Int) - 1)) ?_
   rintro x6 H6 _ ⟨hx6, rfl⟩ l6
   refine ⟨[x6], rfl, ⟨hx6.one, trivial⟩, ?_⟩
   repeat (first | refine chkN_den ?_ | refine chkV_den ?_ | refine chkP_den rfl ?_)
   refine call_retO (r_Ints (hx6.rsl _) ((hx5.le l6).rsl _)) rfl ⟨rfl, trivial⟩ fun H7 l7 => ?_
   rw [creat_eq ks hval hp]
   repeat (first | refine chkN_den ?_ | refine chkV_den ?_ | refine chkP_den rfl ?_)
   refine pure_den _ (not_eq' _) (br_den (fun hx => by simp at hx) (fun _ => ?_))
   repeat (first | refine chkN_den ?_ | refine chkV_den ?_ | refine chkP_den rfl ?_)
   refine pure_den (iV (((j + 1 : Nat) : Int) - 1)) ((add_fit (x := (j : Int) - 1) (y := 1) (by omega) (by omega)).trans (by congr 2; omega)) (cont_den (by simp [Eqs]) ⟨j + 1, rfl, by omega, Heap.le_trans hle3 (Heap.le_trans l4 (Heap.le_trans l5 (Heap.le_trans l6 l7))), rfl⟩ ?_)
   show 4 - (((j + 1 : Nat) : Int) - 1 + 1).toNat < 4 - ((j : Int) - 1 + 1).toNat
   omega
  ·have hcr : creatP ks bb ((j : Int) - 1) = [] := by
    rw [creatP, if_neg]
    intro hx
    rw [Bool.and_eq_true] at hx
    obtain ⟨hx1, hx2⟩ := hx
    simp only [withinB, decide_eq_true_eq] at hx1
    rw [hx2, Bool.true_and, Bool.or_eq_false_iff] at hc
    have c1 := hc.1
    have c2 := hc.2
    simp only [beq_eq_false_iff_ne, ne_eq] at c1 c2
    omega
   repeat (first | refine chkN_den ?_ | refine chkV_den ?_ | refine chkP_den rfl ?_)
   refine call_new (c_Creatures (hk.le (Heap.le_trans hleA l4)) hbb ((j : Int) - 1)) ?_
   rintro x6 H6 _ ⟨hx6, rfl⟩ l6
   rw [hcr] at hx6
   refine ⟨[x6], rfl, ⟨hx6.one, trivial⟩, ?_⟩
   repeat (first | refine chkN_den ?_ | refine chkV_den ?_ | refine chkP_den rfl ?_)
   refine call_retO (r_Ints (l' := []) (hx6.rsl _) ((Sl.nil H6 1).rsl _)) rfl ⟨rfl, trivial⟩ fun H7 l7 => ?_
   repeat (first | refine chkN_den ?_ | refine chkV_den ?_ | refine chkP_den rfl ?_)
   refine pure_den _ (not_eq' _) (br_den (fun hx => by simp at hx) (fun _ => ?_))
   repeat (first | refine chkN_den ?_ | refine chkV_den ?_ | refine chkP_den rfl ?_)
   refine pure_den (iV (((j + 1 : Nat) : Int) - 1)) ((add_fit (x := (j : Int) - 1) (y := 1) (by omega) (by omega)).trans (by congr 2; omega)) (cont_den (by simp [Eqs]) ⟨j + 1, rfl, by omega, Heap.le_trans hle3 (Heap.le_trans l4 (Heap.le_trans l6 l7)), rfl⟩ ?_)
   show 4 - (((j + 1 : Nat) : Int) - 1 + 1).toNat < 4 - ((j : Int) - 1 + 1).toNat
   omega
 ·replace hgl := hgl.le hleA
  replace hl := hl.le hleA
  repeat (first | refine chkN_den ?_ | refine chkV_den ?_ | refine chkP_den rfl ?_)
  refine pure_den _ llen ?_
  repeat (first | refine chkN_den ?_ | refine chkV_den ?_ | refine chkP_den rfl ?_)
  refine pure_den _ (eql_eq _ _) (br_den (fun _ => ?_) (fun hne => ?_))
  ·repeat (first | refine chkN_den ?_ | refine chkV_den ?_ | refine chkP_den rfl ?_)
   exact call_retO (c_known hgl []) rfl ⟨rfl, trivial⟩ fun _ _ => ret_denO ⟨rfl, rfl⟩
  have hlt : i < l.length := by simp at hne; omega
  have hlt2 : l.length - 1 - i < l.length := by omega
  repeat (first | refine chkN_den ?_ | refine chkV_den ?_ | refine chkP_den rfl ?_)
  refine call_new (Triple.frozen (r_Copy hbb hB)) ?_
  rintro _ H4 _ ⟨⟨u, rfl, hwas⟩, rfl⟩ l4
  refine ⟨boardC u bb, rfl, boardC_ones (hwas.r []), newbox_den fun r1 => ?_⟩
  replace hgl := hgl.le l4
  replace hl := hl.le l4
  replace hbb := hbb.le l4
  obtain ⟨a, i1, i2, i3, i4⟩ := hl.idx (k := .i64) (i := i) (r := [iV l[i]]) (by simp [ints, hlt])
  obtain ⟨a', j1, j2, j3, j4⟩ := hl.idx (k := .i64) (i := l.length - 1 - i) (r := [iV l[l.length - 1 - i]]) (by simp [ints, hlt2])
  have b1 := (hli _ (List.getElem_mem hlt)).2
  have b2 := (hli _ (List.getElem_mem hlt2)).2
  have s1 : evalPure (.bin .sub .int) [iV (l.length : Int), iV 1] = some (iV ((l.length - 1 : Nat) : Int)) := by
   rw [sub_fit (by omega) (by omega)]; congr 2; omega
  have s2 : evalPure (.bin .sub .int) [iV ((l.length - 1 : Nat) : Int), iV (i : Int)] = some (iV ((l.length - 1 - i : Nat) : Int)) := by
   rw [sub_fit (by omega) (by omega)]; congr 2; omega
  repeat (first | refine chkN_den ?_ | refine chkV_den ?_ | refine chkP_den rfl ?_)
  refine pure_den _ i1 (load_den i2 i3 i4 ?_)
  repeat (first | refine chkN_den ?_ | refine chkV_den ?_ | refine chkP_den rfl ?_)
  refine pure_den _ llen ?_
  repeat (first | refine chkN_den ?_ | refine chkV_den ?_ | refine chkP_den rfl ?_)
  refine pure_den _ s1 ?_
  repeat (first | refine chkN_den ?_ | refine chkV_den ?_ | refine chkP_den rfl ?_)
  refine pure_den _ s2 ?_
  repeat (first | refine chkN_den ?_ | refine chkV_den ?_ | refine chkP_den rfl ?_)
  refine pure_den _ j1 (load_den j2 j3 j4 ?_)
  repeat (first | refine chkN_den ?_ | refine chkV_den ?_ | refine chkP_den rfl ?_)
  refine call_new (c_Token hgl hbb hB (p := p) (pw := l[i]) (tn := l[l.length - 1 - i]) (most := most) (by omega) (by omega)) ?_
  rintro _ H5 O5 ⟨w5, OB, X, hp5, rfl, hw5⟩ l5
  refine ⟨boardC w5 (tokV bb p l[i] l[l.length - 1 - i] most).1 ++ [iV (tokV bb p l[i] l[l.length - 1 - i] most).2.1, iV (tokV bb p l[i] l[l.length - 1 - i] most).2.2], rfl, ones_app (ownB_ones H5 hw5) ⟨rfl, rfl, trivial⟩, newbox_den fun r2 => ?_⟩
  replace hbb := hbb.le l5
  replace hwas := hwas.le l5
  replace hgl := hgl.le l5
  repeat (first | refine chkN_den ?_ | refine chkV_den ?_ | refine chkP_den rfl ?_)
  refine call_retO (r_Valid (hbb.r _) hfit) rfl ⟨rfl, trivial⟩ fun H6 l6 => ?_
  replace hbb := hbb.le l6
  replace hwas := hwas.le l6
  replace hgl := hgl.le l6
  rw [valid_eq]
  repeat (first | refine chkN_den ?_ | refine chkV_den ?_ | refine chkP_den rfl ?_)
  refine pure_den _ (not_eq' _) ?_
  repeat (first | refine chkN_den ?_ | refine chkV_den ?_ | refine chkP_den rfl ?_)
  refine pure_den _ (lss_eq _ _) ?_
  repeat (first | refine chkN_den ?_ | refine chkV_den ?_ | refine chkP_den rfl ?_)
  refine pure_den _ (pick_or _ _) ?_
  repeat (first | refine chkN_den ?_ | refine chkV_den ?_ | refine chkP_den rfl ?_)
  refine pure_den _ (gtr_eq _ _) ?_
  repeat (first | refine chkN_den ?_ | refine chkV_den ?_ | refine chkP_den rfl ?_)
  refine pure_den _ (pick_or _ _) (br_den (fun hc => ?_) (fun hc => ?_))
  ·have hc : ((!validBd bb || decide (p < 0)) || decide (p > 1)) = true := hc
   have hbad : (validBd bb && withinB p 0 1) = false := by
    cases hv : validBd bb
    ·rfl
    ·rw [hv] at hc
     have hx : p < 0 ∨ p > 1 := by simpa using hc
     rw [Bool.true_and, withinB]
     exact decide_eq_false (by omega)
   have eT := tok_bad hbad l[i] l[l.length - 1 - i] most
   repeat (first | refine chkN_den ?_ | refine chkV_den ?_ | refine chkP_den rfl ?_)
   refine call_drop (O1 := OB) (O2 := X) (by simpa using hp5) (c_gives hw5 (bdS_zero _) hbb hwas _ 2) rfl ⟨rfl, trivial⟩ fun Hg Og lg => ?_
   repeat (first | refine chkN_den ?_ | refine chkV_den ?_ | refine chkP_den rfl ?_)
   refine pure_den _ (eql_eq _ _) ?_
   repeat (first | refine chkN_den ?_ | refine chkV_den ?_ | refine chkP_den rfl ?_)
   refine pure_den _ (pick_and _ _) (br_den (fun _ => ?_) (fun hx => ?_))
   ·repeat (first | refine chkN_den ?_ | refine chkV_den ?_ | refine chkP_den rfl ?_)
    exact call_retO (c_known (hgl.le lg) _) rfl ⟨rfl, trivial⟩ fun _ _ => ret_drop ⟨rfl, rfl⟩
   ·exfalso
    have hx : (((((tokV bb p l[i] l[l.length - 1 - i] most).1 == zBd) && ((tokV bb p l[i] l[l.length - 1 - i] most).2.2 == 2)) && (bb == bb)) && ((tokV bb p l[i] l[l.length - 1 - i] most).2.1 == 0)) = false := hx
    simp only [eT, beq_self_eq_true, Bool.and_self, Bool.true_eq_false, reduceCtorEq] at hx
  ·have hc : ((!validBd bb || decide (p < 0)) || decide (p > 1)) = false := hc
   rw [Bool.or_eq_false_iff, Bool.or_eq_false_iff] at hc
   obtain ⟨⟨c1, c2⟩, c3⟩ := hc
   have hval : validBd bb = true := notF c1
   have hp : p = 0 ∨ p = 1 := by
    have := of_decide_eq_false c2
    have := of_decide_eq_false c3
    omega
   have eT := tok_eq hval hp l[i] l[l.length - 1 - i] most
   have lz := Heap.le_trans l5 l6
   repeat (first | refine chkN_den ?_ | refine chkV_den ?_ | refine chkP_den rfl ?_)
   refine pure_den _ i1 (load_den (lz.read i2) i3 i4 ?_)
   repeat (first | refine chkN_den ?_ | refine chkV_den ?_ | refine chkP_den rfl ?_)
   refine pure_den _ llen ?_
   repeat (first | refine chkN_den ?_ | refine chkV_den ?_ | refine chkP_den rfl ?_)
   refine pure_den _ s1 ?_
   repeat (first | refine chkN_den ?_ | refine chkV_den ?_ | refine chkP_den rfl ?_)
   refine pure_den _ s2 ?_
   repeat (first | refine chkN_den ?_ | refine chkV_den ?_ | refine chkP_den rfl ?_)
   refine pure_den _ j1 (load_den (lz.read j2) j3 j4 ?_)
   repeat (first | refine chkN_den ?_ | refine chkV_den ?_ | refine chkP_den rfl ?_)
   refine call_new (r_Token hbb hB hval hp l[i] l[l.length - 1 - i] most) ?_
   rintro _ H7 _ ⟨⟨w7, rfl, hw7⟩, rfl⟩ l7
   refine ⟨boardC w7 (rTokV bb p l[i] l[l.length - 1 - i] most).1 ++ [iV (rTokV bb p l[i] l[l.length - 1 - i] most).2], rfl, ones_app (boardC_ones (hw7.r [])) ⟨rfl, trivial⟩, newbox_den fun r3 => ?_⟩
   replace hbb := hbb.le l7
   replace hwas := hwas.le l7
   repeat (first | refine chkN_den ?_ | refine chkV_den ?_ | refine chkP_den rfl ?_)
   refine pure_den _ (neq_eq _ _) (br_den (fun hx => ?_) (fun _ => ?_))
   ·exfalso
    have hx : ((tokV bb p l[i] l[l.length - 1 - i] most).2.1 != (rTokV bb p l[i] l[l.length - 1 - i] most).2) = true := hx
    rw [eT] at hx
    simp at hx
   repeat (first | refine chkN_den ?_ | refine chkV_den ?_ | refine chkP_den rfl ?_)
   refine call_drop (O1 := OB) (O2 := X) (by simpa using hp5) (c_gives hw5 hw7 hbb hwas _ 0) rfl ⟨rfl, trivial⟩ fun Hg Og lg => ?_
   repeat (first | refine chkN_den ?_ | refine chkV_den ?_ | refine chkP_den rfl ?_)
   refine pure_den _ (not_eq' _) (br_den (fun hx => ?_) (fun _ => ?_))
   ·exfalso
    have hx : (!((((tokV bb p l[i] l[l.length - 1 - i] most).1 == (rTokV bb p l[i] l[l.length - 1 - i] most).1) && ((tokV bb p l[i] l[l.length - 1 - i] most).2.2 == 0)) && (bb == bb))) = true := hx
    simp only [eT, beq_self_eq_true, Bool.and_self, Bool.not_true, Bool.false_eq_true, reduceCtorEq] at hx
   repeat (first | refine chkN_den ?_ | refine chkV_den ?_ | refine chkP_den rfl ?_)
   refine pure_den _ (add_one (by omega)) ⟨by simp [Eqs], fun _ => ⟨Hg, [], Ghost.drop _ _, ⟨i + 1, w7, _, rfl, hlt, ?_, hw7.le lg, grow_rTok hg hp _ _ _, rfl⟩, ?_⟩⟩
   ·exact Heap.le_trans hleA (Heap.le_trans l4 (Heap.le_trans lz (Heap.le_trans l7 lg)))
   ·show l.length + 1 - ((i + 1 : Nat) : Int).toNat < l.length + 1 - (i : Int).toNat
    omega
end Go.Proofs.YtjaegdkkiefchaaGreatDoor
