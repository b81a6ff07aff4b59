/- Small boards. -/
import Derived.Test.YtieaihgbjikggaaGreatC8
import Derived.Test.YtieaihgbjikggaaGreatC1
import Derived.Test.YtieaihgbjikggaaGreatFw3
import Derived.Test.YtieaihgbjikggaaGreatFw3
import Derived.Test.YtieaihgbjikggaaGreatFw3
import Derived.Lib.Overlaps
import Derived.Lib.AppendZerosOnto
namespace Go.Proofs.YtieaihgbjikggaaGreat
open Go Go.Sx
set_option maxRecDepth 100000
set_option maxHeartbeats 1000000
def stSmall (s : St) : Bool := !decide ((s.lib.length : Int) > 40) && (!decide ((s.hand.length : Int) > 40) && (!decide ((s.field.length : Int) > 40) && !decide ((s.grave.length : Int) > 40)))
def itsSmall (l : List It) : Bool := !decide ((l.length : Int) > 20) && l.all fun x => !decide ((x.tgs.length : Int) > 6)
def smallBd (b : Bd) : Bool := stSmall b.s0 && (stSmall b.s1 && (itsSmall b.stack && (itsSmall b.queue && ((decide ((b.objs.length : Int) ≤ 30) && decide ((b.att.length : Int) ≤ 30)) && decide ((b.blocks.length : Int) ≤ 30)))))
theorem small_fit {b : Bd} (h : smallBd b = true) : bdFit b := by
 simp only [smallBd, stSmall, itsSmall, Bool.and_eq_true, Bool.not_eq_true', decide_eq_true_eq, decide_eq_false_iff_not] at h
 refine ⟨⟨?_, ?_, ?_, ?_⟩, ⟨?_, ?_, ?_, ?_⟩, ?_⟩ <;> omega
theorem c_small {H : Heap} {O : Own} {v : BV12} {b : Bd} (h : BdR H O v b) : RetO PP F_zeitnotlaw18_small [.agg (boardC v b).toArray] H O (.bool (smallBd b)) := by
 refine run_zeitnotlaw18_small (vs := boardC v b) (by kernel_rfl) (boardC_ones h) ?_
 simp only [T_zeitnotlaw18_small]
 have len1 : ∀ {H' : Heap} {O' : Own} {w : Value} {l : List Int}, RSl H' O' 1 w (ints l) → evalPure .len [w] = some (iV l.length) := fun h => by have := h.len; rwa [ints, List.length_map] at this
 have lo := h.objs.len
 have lb := h.blocks.len
 rw [List.length_map] at lo lb
 have la := len1 h.att
 refine newbox_den fun r0 => ?_
 obtain ⟨s01, s02, s03, s04⟩ := stR_ones h.s0
 refine chkN_den (call_retO (r_Zones b.s0 s01 s02 s03 s04 _ _) rfl ⟨s01, s02, s03, s04, trivial⟩ fun Hs0 ls0 => ?_)
 replace h := h.le ls0
 refine pure_den _ (len1 h.s0.lib) (pure_den _ (gtr_eq _ _) (br_den (fun ks0lib => ret_denO ⟨?_, rfl⟩) (fun ks0lib => ?_)))
 ·simp only [smallBd, stSmall, ks0lib, Bool.not_true, Bool.not_false, Bool.true_and, Bool.false_and, Bool.and_false]
 refine pure_den _ (len1 h.s0.hand) (pure_den _ (gtr_eq _ _) (br_den (fun ks0hand => ret_denO ⟨?_, rfl⟩) (fun ks0hand => ?_)))
 ·simp only [smallBd, stSmall, ks0lib, ks0hand, Bool.not_true, Bool.not_false, Bool.true_and, Bool.false_and, Bool.and_false]
 refine pure_den _ (len1 h.s0.field) (pure_den _ (gtr_eq _ _) (br_den (fun ks0field => ret_denO ⟨?_, rfl⟩) (fun ks0field => ?_)))
 ·simp only [smallBd, stSmall, ks0lib, ks0hand, ks0field, Bool.not_true, Bool.not_false, Bool.true_and, Bool.false_and, Bool.and_false]
 refine pure_den _ (len1 h.s0.grave) (pure_den _ (gtr_eq _ _) (br_den (fun ks0grave => ret_denO ⟨?_, rfl⟩) (fun ks0grave => ?_)))
 ·simp only [smallBd, stSmall, ks0lib, ks0hand, ks0field, ks0grave, Bool.not_true, Bool.not_false, Bool.true_and, Bool.false_and, Bool.and_false]
 obtain ⟨s11, s12, s13, s14⟩ := stR_ones h.s1
 refine chkN_den (call_retO (r_Zones b.s1 s11 s12 s13 s14 _ _) rfl ⟨s11, s12, s13, s14, trivial⟩ fun Hs1 ls1 => ?_)
 replace h := h.le ls1
 refine pure_den _ (len1 h.s1.lib) (pure_den _ (gtr_eq _ _) (br_den (fun ks1lib => ret_denO ⟨?_, rfl⟩) (fun ks1lib => ?_)))
 ·simp only [smallBd, stSmall, ks0lib, ks0hand, ks0field, ks0grave, ks1lib, Bool.not_true, Bool.not_false, Bool.true_and, Bool.false_and, Bool.and_false]
 refine pure_den _ (len1 h.s1.hand) (pure_den _ (gtr_eq _ _) (br_den (fun ks1hand => ret_denO ⟨?_, rfl⟩) (fun ks1hand => ?_)))
 ·simp only [smallBd, stSmall, ks0lib, ks0hand, ks0field, ks0grave, ks1lib, ks1hand, Bool.not_true, Bool.not_false, Bool.true_and, Bool.false_and, Bool.and_false]
 refine pure_den _ (len1 h.s1.field) (pure_den _ (gtr_eq _ _) (br_den (fun ks1field => ret_denO ⟨?_, rfl⟩) (fun ks1field => ?_)))
 ·simp only [smallBd, stSmall, ks0lib, ks0hand, ks0field, ks0grave, ks1lib, ks1hand, ks1field, Bool.not_true, Bool.not_false, Bool.true_and, Bool.false_and, Bool.and_false]
 refine pure_den _ (len1 h.s1.grave) (pure_den _ (gtr_eq _ _) (br_den (fun ks1grave => ret_denO ⟨?_, rfl⟩) (fun ks1grave => ?_)))
 ·simp only [smallBd, stSmall, ks0lib, ks0hand, ks0field, ks0grave, ks1lib, ks1hand, ks1field, ks1grave, Bool.not_true, Bool.not_false, Bool.true_and, Bool.false_and, Bool.and_false]
 repeat (first | refine chkN_den ?_ | refine chkV_den ?_ | refine newbox_den fun _ => ?_)
 have lstack := ItsR.len h.stack
 refine pure_den _ lstack (pure_den _ (gtr_eq _ _) (br_den (fun kstack => ret_denO ⟨?_, rfl⟩) (fun kstack => ?_)))
 ·simp only [smallBd, stSmall, itsSmall, ks0lib, ks0hand, ks0field, ks0grave, ks1lib, ks1hand, ks1field, ks1grave, kstack, Bool.not_true, Bool.not_false, Bool.true_and, Bool.false_and, Bool.and_false]
 have stkstack := h.stack
 obtain ⟨rowsstack, hrsstack, hrlstack, hitstack⟩ := stkstack
 have hBstack := hrsstack.lenB
 refine count_den b.stack.length (fun i H' OO => OO = O ∧ Heap.le Hs1 H' ∧ (b.stack.all fun x => !decide ((x.tgs.length : Int) > 6)) = ((b.stack.drop i).all fun x => !decide ((x.tgs.length : Int) > 6))) ⟨rfl, Heap.le_refl _, rfl⟩ ?_
 rintro istack Hstack Ostack histack - ⟨rfl, hlestack, horstack⟩
 replace h := h.le hlestack
 refine pure_den _ lstack (pure_den _ (lss_eq _ _) (br_den (fun hb => ?_) (fun hb => ?_)))
 ·have hlt : istack < b.stack.length := by simpa using hb
  obtain ⟨a, h1, _, h3, _⟩ := (hrsstack.le hlestack).idx .i64 istack rowsstack[istack] (by simp [hrlstack, hlt])
  obtain ⟨s, hrow, hs⟩ := (hitstack istack rowsstack[istack] b.stack[istack] (by simp [hrlstack, hlt]) (by simp [hlt])).le hlestack
  have hr := h3 4 1 (by omega)
  rw [hrow] at hr
  have hst : ((b.stack.drop istack).all fun x => !decide ((x.tgs.length : Int) > 6)) = (!decide ((b.stack[istack].tgs.length : Int) > 6) && ((b.stack.drop (istack + 1)).all fun x => !decide ((x.tgs.length : Int) > 6))) := by rw [List.drop_eq_getElem_cons hlt, List.all_cons]
  have lt := hs.len
  rw [List.length_map] at lt
  refine pure_den _ h1 (chkP_den rfl (load_denR hr rfl ⟨hs.one, trivial⟩ (pure_den _ lt (pure_den _ (gtr_eq _ _) (br_den (fun hc => ret_denO ⟨?_, rfl⟩) (fun hc => ?_))))))
  ·simp only [smallBd, stSmall, itsSmall, ks0lib, ks0hand, ks0field, ks0grave, ks1lib, ks1hand, ks1field, ks1grave, kstack, horstack, hst, hc, Bool.not_true, Bool.not_false, Bool.true_and, Bool.false_and, Bool.and_false]
  ·refine pure_den _ (add_one (by omega)) (count_cont (by simp [Eqs]) hlt ⟨rfl, hlestack, ?_⟩)
   rw [horstack, hst, hc]; rfl
 have hgestack : b.stack.length ≤ istack := by simpa using hb
 rw [List.drop_of_length_le hgestack] at horstack
 have kallstack : (b.stack.all fun x => !decide ((x.tgs.length : Int) > 6)) = true := by rw [horstack]; rfl
 clear hb
 repeat (first | refine chkN_den ?_ | refine chkV_den ?_ | refine newbox_den fun _ => ?_)
 have lqueue := ItsR.len h.queue
 refine pure_den _ lqueue (pure_den _ (gtr_eq _ _) (br_den (fun kqueue => ret_denO ⟨?_, rfl⟩) (fun kqueue => ?_)))
 ·simp only [smallBd, stSmall, itsSmall, ks0lib, ks0hand, ks0field, ks0grave, ks1lib, ks1hand, ks1field, ks1grave, kstack, kallstack, kqueue, Bool.not_true, Bool.not_false, Bool.true_and, Bool.false_and, Bool.and_false]
 have stkqueue := h.queue
 obtain ⟨rowsqueue, hrsqueue, hrlqueue, hitqueue⟩ := stkqueue
 have hBqueue := hrsqueue.lenB
 refine count_den b.queue.length (fun i H' OO => OO = Ostack ∧ Heap.le Hstack H' ∧ (b.queue.all fun x => !decide ((x.tgs.length : Int) > 6)) = ((b.queue.drop i).all fun x => !decide ((x.tgs.length : Int) > 6))) ⟨rfl, Heap.le_refl _, rfl⟩ ?_
 rintro iqueue Hqueue Oqueue hiqueue - ⟨rfl, hlequeue, horqueue⟩
 replace h := h.le hlequeue
 refine pure_den _ lqueue (pure_den _ (lss_eq _ _) (br_den (fun hb => ?_) (fun hb => ?_)))
 ·have hlt : iqueue < b.queue.length := by simpa using hb
  obtain ⟨a, h1, _, h3, _⟩ := (hrsqueue.le hlequeue).idx .i64 iqueue rowsqueue[iqueue] (by simp [hrlqueue, hlt])
  obtain ⟨s, hrow, hs⟩ := (hitqueue iqueue rowsqueue[iqueue] b.queue[iqueue] (by simp [hrlqueue, hlt]) (by simp [hlt])).le hlequeue
  have hr := h3 4 1 (by omega)
  rw [hrow] at hr
  have hst : ((b.queue.drop iqueue).all fun x => !decide ((x.tgs.length : Int) > 6)) = (!decide ((b.queue[iqueue].tgs.length : Int) > 6) && ((b.queue.drop (iqueue + 1)).all fun x => !decide ((x.tgs.length : Int) > 6))) := by rw [List.drop_eq_getElem_cons hlt, List.all_cons]
  have lt := hs.len
  rw [List.length_map] at lt
  refine pure_den _ h1 (chkP_den rfl (load_denR hr rfl ⟨hs.one, trivial⟩ (pure_den _ lt (pure_den _ (gtr_eq _ _) (br_den (fun hc => ret_denO ⟨?_, rfl⟩) (fun hc => ?_))))))
  ·simp only [smallBd, stSmall, itsSmall, ks0lib, ks0hand, ks0field, ks0grave, ks1lib, ks1hand, ks1field, ks1grave, kstack, kallstack, kqueue, horqueue, hst, hc, Bool.not_true, Bool.not_false, Bool.true_and, Bool.false_and, Bool.and_false]
  ·refine pure_den _ (add_one (by omega)) (count_cont (by simp [Eqs]) hlt ⟨rfl, hlequeue, ?_⟩)
   rw [horqueue, hst, hc]; rfl
 have hgequeue : b.queue.length ≤ iqueue := by simpa using hb
 rw [List.drop_of_length_le hgequeue] at horqueue
 have kallqueue : (b.queue.all fun x => !decide ((x.tgs.length : Int) > 6)) = true := by rw [horqueue]; rfl
 clear hb
 repeat (first | refine chkN_den ?_ | refine chkV_den ?_ | refine pure_den _ lo ?_ | refine pure_den _ la ?_ | refine pure_den _ lb ?_ | refine pure_den _ (leq_eq _ _) ?_ | refine pure_den _ (pick_and _ _) ?_)
 refine ret_denO ⟨?_, rfl⟩
 simp only [smallBd, stSmall, itsSmall, ks0lib, ks0hand, ks0field, ks0grave, ks1lib, ks1hand, ks1field, ks1grave, kstack, kallstack, kqueue, kallqueue, Bool.not_true, Bool.not_false, Bool.true_and, Bool.false_and, Bool.and_false]
end Go.Proofs.YtieaihgbjikggaaGreat
namespace Go.Sx
open Go
/-- A call that is handed nothing that is owned, and hands back something that is. -/
theorem call_new {P : Program} {f : FuncId} {args : List Value} {H : Heap} {O : Own} {R : Value → Heap → Own → Prop} {d : Bool} {shp : Shp} {K : List Value → List (List Value) → Heap → Own → Prop}
  (h : Triple P f args H [] R) (hk : ∀ v H' O1, R v H' O1 → Heap.le H H' → ∃ vs, shp.open v = some vs ∧ Ones vs ∧ K vs [] H' (O1 ++ O)) :
  CallD (fun H1 O1 R => Triple P f args H1 O1 R) d [] [] shp K H O := by
 intro _
 refine ⟨H, [], O, R, ?_, by simpa using h, fun v H' O' hr hle => ?_⟩
 ·cases d
  ·exact Ghost.refl _ _
  ·exact ⟨rfl, .inl ⟨rfl, rfl⟩⟩
 ·obtain ⟨vs, h1, h2, h3⟩ := hk v H' O' hr hle
  exact ⟨vs, [], O', h1, h2, trivial, rfl, h3⟩
theorem perm_count {O O' : Own} (h : ∀ a [BEq (Nat × Obj)] [LawfulBEq (Nat × Obj)], O.count a = O'.count a) : O.Perm O' := by
 haveI : DecidableEq (Nat × Obj) := fun a b => Classical.propDecidable (a = b)
 exact List.perm_iff_count.2 fun a => h a
/-- A frozen list of items. -/
def ItsS (H : Heap) (v : Value) (l : List It) : Prop := ∃ rows, Sl H 5 v rows ∧ rows.length = l.length ∧ ∀ (i : Nat) (r : List Value) (x : It), rows[i]? = some r → l[i]? = some x → ∃ s, r = [iV x.player, iV x.id, iV x.card, iV x.trig, s] ∧ Sl H 2 s (x.tgs.map Tg.row)
structure StS (H : Heap) (vl vh vf vg : Value) (s : St) : Prop where
 lib : Sl H 1 vl (ints s.lib)
 hand : Sl H 1 vh (ints s.hand)
 field : Sl H 1 vf (ints s.field)
 grave : Sl H 1 vg (ints s.grave)
structure BdS (H : Heap) (v : BV12) (b : Bd) : Prop where
 objs : Sl H 12 v.o (b.objs.map Ob.row)
 s0 : StS H v.l0 v.h0 v.f0 v.g0 b.s0
 s1 : StS H v.l1 v.h1 v.f1 v.g1 b.s1
 stack : ItsS H v.s b.stack
 queue : ItsS H v.q b.queue
 att : Sl H 1 v.a (ints b.att)
 blocks : Sl H 2 v.b (b.blocks.map Bl.row)
theorem ItsS.le {H H' : Heap} {v : Value} {l : List It} (h : ItsS H v l) (hl : Heap.le H H') : ItsS H' v l :=
 let ⟨rows, h1, h2, h3⟩ := h; ⟨rows, h1.le hl, h2, fun i r x a b => let ⟨s, e, k⟩ := h3 i r x a b; ⟨s, e, k.le hl⟩⟩
theorem StS.le {H H' : Heap} {vl vh vf vg : Value} {s : St} (h : StS H vl vh vf vg s) (hl : Heap.le H H') : StS H' vl vh vf vg s := ⟨h.lib.le hl, h.hand.le hl, h.field.le hl, h.grave.le hl⟩
theorem BdS.le {H H' : Heap} {v : BV12} {b : Bd} (h : BdS H v b) (hl : Heap.le H H') : BdS H' v b :=
 ⟨h.objs.le hl, h.s0.le hl, h.s1.le hl, h.stack.le hl, h.queue.le hl, h.att.le hl, h.blocks.le hl⟩
theorem ItsS.r {H : Heap} {v : Value} {l : List It} (h : ItsS H v l) (O : Own) : ItsR H O v l :=
 let ⟨rows, h1, h2, h3⟩ := h; ⟨rows, h1.rsl O, h2, fun i r x a b => let ⟨s, e, k⟩ := h3 i r x a b; ⟨s, e, k.rsl O⟩⟩
theorem StS.r {H : Heap} {vl vh vf vg : Value} {s : St} (h : StS H vl vh vf vg s) (O : Own) : StR H O vl vh vf vg s := ⟨h.lib.rsl O, h.hand.rsl O, h.field.rsl O, h.grave.rsl O⟩
theorem BdS.r {H : Heap} {v : BV12} {b : Bd} (h : BdS H v b) (O : Own) : BdR H O v b := ⟨h.objs.rsl O, h.s0.r O, h.s1.r O, h.stack.r O, h.queue.r O, h.att.rsl O, h.blocks.rsl O⟩
/-- Owned items: the targets are owned, too. -/
def OIts (te ti : TypeId) (v : Value) (l : List It) (O : Own) : Prop := ∃ rows A Ts, O.Perm (A ++ List.flatten Ts) ∧ OSl ti 5 v rows A ∧ rows.length = l.length ∧ Ts.length = l.length ∧
 ∀ (i : Nat) (r : List Value) (x : It) (T : Own), rows[i]? = some r → l[i]? = some x → Ts[i]? = some T → ∃ s, r = [iV x.player, iV x.id, iV x.card, iV x.trig, s] ∧ OSl te 2 s (x.tgs.map Tg.row) T
structure Tys where
 (int ob bl it tg : TypeId)
structure OBd (t : Tys) (w : BV12) (b : Bd) (Oo A0 B0 C0 D0 A1 B1 C1 D1 Os Oq Oa Obk : Own) : Prop where
 objs : OSl t.ob 12 w.o (b.objs.map Ob.row) Oo
 l0 : OSl t.int 1 w.l0 (ints b.s0.lib) A0
 h0 : OSl t.int 1 w.h0 (ints b.s0.hand) B0
 f0 : OSl t.int 1 w.f0 (ints b.s0.field) C0
 g0 : OSl t.int 1 w.g0 (ints b.s0.grave) D0
 l1 : OSl t.int 1 w.l1 (ints b.s1.lib) A1
 h1 : OSl t.int 1 w.h1 (ints b.s1.hand) B1
 f1 : OSl t.int 1 w.f1 (ints b.s1.field) C1
 g1 : OSl t.int 1 w.g1 (ints b.s1.grave) D1
 stack : OIts t.tg t.it w.s b.stack Os
 queue : OIts t.tg t.it w.q b.queue Oq
 att : OSl t.int 1 w.a (ints b.att) Oa
 blocks : OSl t.bl 2 w.b (b.blocks.map Bl.row) Obk
/-- A board that is owned. -/
def OwnB (t : Tys) (w : BV12) (b : Bd) (O : Own) : Prop := ∃ Oo A0 B0 C0 D0 A1 B1 C1 D1 Os Oq Oa Obk, O.Perm (Oo ++ (A0 ++ (B0 ++ (C0 ++ (D0 ++ (A1 ++ (B1 ++ (C1 ++ (D1 ++ (Os ++ (Oq ++ (Oa ++ Obk)))))))))))) ∧ OBd t w b Oo A0 B0 C0 D0 A1 B1 C1 D1 Os Oq Oa Obk
theorem OIts.r {te ti : TypeId} {v : Value} {l : List It} {O O' : Own} (h : OIts te ti v l O) (hO : ∀ p ∈ O, p ∈ O') (H : Heap) : ItsR H O' v l := by
 obtain ⟨rows, A, Ts, hp, h1, h2, h3, h4⟩ := h
 refine ⟨rows, h1.rsl (fun p hp' => hO p (hp.mem_iff.2 (by simp [hp']))) H, h2, fun i r x hr hx => ?_⟩
 have hlt : i < Ts.length := by rw [h3]; exact (List.getElem?_eq_some_iff.1 hx).1
 obtain ⟨s, e, k⟩ := h4 i r x Ts[i] hr hx (List.getElem?_eq_getElem hlt)
 exact ⟨s, e, k.rsl (fun p hp' => hO p (hp.mem_iff.2 (List.mem_append_right _ (List.mem_flatten.2 ⟨Ts[i], List.getElem_mem hlt, hp'⟩)))) H⟩
theorem OwnB.r {t : Tys} {w : BV12} {b : Bd} {O O' : Own} (h : OwnB t w b O) (hO : ∀ p ∈ O, p ∈ O') (H : Heap) : BdR H O' w b := by
 obtain ⟨Oo, A0, B0, C0, D0, A1, B1, C1, D1, Os, Oq, Oa, Obk, hp, h⟩ := h
 have m : ∀ p, p ∈ Oo ++ (A0 ++ (B0 ++ (C0 ++ (D0 ++ (A1 ++ (B1 ++ (C1 ++ (D1 ++ (Os ++ (Oq ++ (Oa ++ Obk))))))))))) → p ∈ O' := fun p h => hO p (hp.mem_iff.2 h)
 refine ⟨h.objs.rsl (fun p k => m p (by simp [k])) H, ⟨h.l0.rsl (fun p k => m p (by simp [k])) H, h.h0.rsl (fun p k => m p (by simp [k])) H, h.f0.rsl (fun p k => m p (by simp [k])) H, h.g0.rsl (fun p k => m p (by simp [k])) H⟩,
  ⟨h.l1.rsl (fun p k => m p (by simp [k])) H, h.h1.rsl (fun p k => m p (by simp [k])) H, h.f1.rsl (fun p k => m p (by simp [k])) H, h.g1.rsl (fun p k => m p (by simp [k])) H⟩,
  h.stack.r (fun p k => m p (by simp [k])) H, h.queue.r (fun p k => m p (by simp [k])) H, h.att.rsl (fun p k => m p (by simp [k])) H, h.blocks.rsl (fun p k => m p (by simp [k])) H⟩
/-- No list is longer than this. -/
def itsB (l : List It) : Prop := l.length ≤ 1000000 ∧ ∀ x ∈ l, x.tgs.length ≤ 1000000
def stB (s : St) : Prop := s.lib.length ≤ 1000000 ∧ s.hand.length ≤ 1000000 ∧ s.field.length ≤ 1000000 ∧ s.grave.length ≤ 1000000
def bdB (b : Bd) : Prop := b.objs.length ≤ 1000000 ∧ stB b.s0 ∧ stB b.s1 ∧ itsB b.stack ∧ itsB b.queue ∧ b.att.length ≤ 1000000 ∧ b.blocks.length ≤ 1000000
end Go.Sx
namespace Go.Proofs.YtieaihgbjikggaaGreat
open Go Go.Sx
set_option maxRecDepth 100000
set_option maxHeartbeats 1000000
def tys : Tys := ⟨Ty_int, Ty_api_Object, Ty_api_Block, Ty_api_Item, Ty_api_Target⟩
end Go.Proofs.YtieaihgbjikggaaGreat
namespace Go.Proofs.YtieaihgbjikggaaGreat
open Go Go.Sx
set_option maxRecDepth 100000
set_option maxHeartbeats 1000000
theorem OIts.one {te ti : TypeId} {v : Value} {l : List It} {O : Own} (h : OIts te ti v l O) : v.oneCell' = true := by
 obtain ⟨rows, A, Ts, _, h1, _⟩ := h; exact h1.one
end Go.Proofs.YtieaihgbjikggaaGreat
namespace Go.Proofs.YtieaihgbjikggaaGreat
open Go Go.Sx
set_option maxRecDepth 100000
set_option maxHeartbeats 1000000
/-- A new slice with the rows of a frozen one. -/
theorem app_new {P : Program} {t ty e : TypeId} {size bytes : Nat} (ha : appOk P t e size bytes = true) {x : Value} {news : List (List Value)} {O : Own} {H : Heap} {K : List Value → List (List Value) → Heap → Own → Prop}
  (h : Sl H size x news) (hb : news.length * bytes ≤ 140737488355328) (h63 : news.length < 2 ^ 63) (hk : ∀ v' O1' H', Heap.le H H' → OSl e size v' news O1' → K [v'] [] H' (O1' ++ O)) :
  CallD (fun H1 O1 R => OpTriple P ((PrimOp.bi .append #[t, t] ty).sem [.slice none 0 0, x]) H1 O1 R) false [] [] .one K H O :=
 call_append (rows := []) (O1 := []) (O2 := O) ha (List.Perm.refl _) (OSl.nil e size) (fun _ hl _ => h.le hl) (by simpa using hb) (by simpa using h63) fun v' O1' H' hl ho => hk v' O1' H' hl (by simpa using ho)
theorem r_copied {H : Heap} {v : Value} {l : List It} (h : ItsS H v l) (hB : itsB l) : Triple PP F_zeitnotref15_copied [v] H [] fun v' H' O' => OIts Ty_api_Target Ty_api_Item v' l O' := by
 have hone := ItsR.one (h.r [])
 have hlen := ItsR.len (h.r [])
 obtain ⟨rows, hs, hrl, hit⟩ := h
 refine run_zeitnotref15_copied (vs := [v]) (by kernel_rfl) ⟨hone, trivial⟩ ?_
 simp only [T_zeitnotref15_copied]
 refine countY_den l.length (fun i x H' O' => Heap.le H H' ∧ ∃ rows' A Ts, O'.Perm (A ++ List.flatten Ts) ∧ OSl Ty_api_Item 5 x rows' A ∧ rows'.length = i ∧ Ts.length = i ∧
  (∀ (j : Nat) (r : List Value) (x : It) (T : Own), rows'[j]? = some r → l[j]? = some x → Ts[j]? = some T → ∃ s, r = [iV x.player, iV x.id, iV x.card, iV x.trig, s] ∧ OSl Ty_api_Target 2 s (x.tgs.map Tg.row) T))
  ⟨Heap.le_refl _, [], [], [], by simp, OSl.nil _ _, rfl, rfl, fun j r x T h => by simp at h⟩ ?_
 rintro i x H' O' hi - ⟨hle, rows', A, Ts, hp, hA, hrl', htl, hspec⟩
 refine pure_den _ hlen (pure_den _ (lss_eq _ _) (br_den (fun hb => ?_) (fun hb => ?_)))
 ·have hlt : i < l.length := by simpa using hb
  obtain ⟨s, hrow, hst⟩ := hit i rows[i] l[i] (List.getElem?_eq_getElem (by omega)) (List.getElem?_eq_getElem hlt)
  obtain ⟨a, h1, h2, h3, h4⟩ := (hs.le hle).idx (k := .i64) (i := i) (List.getElem?_eq_getElem (by omega))
  rw [hrow] at h2 h3 h4
  refine pure_den _ h1 (load_den h2 h3 h4 (newbox_den fun r0 => chkN_den (chkN_den ?_)))
  have hb6 := hB.2 _ (List.getElem_mem hlt)
  refine app_new (e := Ty_api_Target) (size := 2) (bytes := 16) (by kernel_rfl) (hst.le hle) (by simp; omega) (by simp; omega) fun s' T H2 l2 hT => ?_
  refine chkN_den (chkN_den (newbox_den fun r1 => ?_))
  refine call_append (rows := rows') (news := [[iV l[i].player, iV l[i].id, iV l[i].card, iV l[i].trig, s']]) (O1 := A) (O2 := T ++ List.flatten Ts) (e := Ty_api_Item) (size := 5) (bytes := 56) (by kernel_rfl) ((hp.append_left T).trans (List.perm_append_comm_assoc _ _ _)) hA
   (fun Hf _ hf => Sl.block1 (hf _ List.mem_cons_self) rfl ⟨rfl, rfl, rfl, rfl, hT.one, trivial⟩) ?_ ?_ ?_
  ·have := hB.1; simp; omega
  ·have := hB.1; simp; omega
  intro v' A' H3 l3 hA'
  refine pure_den _ (add_one (by have := hB.1; omega)) (countY_cont (by simp [Eqs]) hlt ⟨Heap.le_trans hle (Heap.le_trans l2 l3), _, A', Ts ++ [T], ?_, hA', by simp [hrl'], by simp [htl], ?_⟩)
  ·refine List.Perm.append_left A' ?_
   rw [List.flatten_append]
   simpa using List.perm_append_comm
  ·intro j r x T' q1 q2 q3
   by_cases hj : j = i
   ·subst hj
    rw [List.getElem?_append_right (by omega), hrl', Nat.sub_self] at q1
    rw [List.getElem?_eq_getElem hlt] at q2
    rw [List.getElem?_append_right (by omega), htl, Nat.sub_self] at q3
    simp only [Option.some.injEq, List.getElem?_cons_zero] at q1 q2 q3
    subst q1; subst q2; subst q3
    exact ⟨s', rfl, hT⟩
   ·have hjlt : j < Ts.length := by
     have := (List.getElem?_eq_some_iff.1 q3).1
     simp at this; omega
    rw [List.getElem?_append_left hjlt] at q3
    rw [List.getElem?_append_left (by omega)] at q1
    exact hspec j r x T' q1 q2 q3
 ·have hie : i = l.length := by
   have : ¬ ((i : Int) < (l.length : Int)) := by simpa using hb
   omega
  subst hie
  exact ret_denO ⟨rows', A, Ts, hp, hA, hrl', htl, hspec⟩
theorem r_Copy {H : Heap} {v : BV12} {b : Bd} (h : BdS H v b) (hB : bdB b) : Triple PP F_zeitnotref15_Copy [.agg (boardC v b).toArray] H [] fun r H' O' => ∃ w, r = .agg (boardC w b).toArray ∧ OwnB tys w b O' := by
 refine run_zeitnotref15_Copy (vs := boardC v b) (by kernel_rfl) (boardC_ones (h.r [])) ?_
 simp only [T_zeitnotref15_Copy]
 obtain ⟨b1, ⟨b2, b3, b4, b5⟩, ⟨b6, b7, b8, b9⟩, b10, b11, b12, b13⟩ := hB
 refine newbox_den fun r0 => ?_
 repeat (first | refine chkN_den ?_ | refine chkV_den ?_ | refine newbox_den fun _ => ?_)
 refine app_new (e := Ty_api_Object) (size := 12) (bytes := 80) (by kernel_rfl) h.objs (by simp [ints]; omega) (by simp [ints]; omega) fun xo Oo H1 l1 po => ?_
 replace h := h.le l1
 repeat (first | refine chkN_den ?_ | refine chkV_den ?_ | refine newbox_den fun _ => ?_)
 refine app_new (e := Ty_int) (size := 1) (bytes := 8) (by kernel_rfl) h.s0.lib (by simp [ints]; omega) (by simp [ints]; omega) fun x1 A0 H1 l1 p1 => ?_
 replace h := h.le l1
 repeat (first | refine chkN_den ?_ | refine chkV_den ?_ | refine newbox_den fun _ => ?_)
 refine app_new (e := Ty_int) (size := 1) (bytes := 8) (by kernel_rfl) h.s0.hand (by simp [ints]; omega) (by simp [ints]; omega) fun x2 B0 H1 l1 p2 => ?_
 replace h := h.le l1
 repeat (first | refine chkN_den ?_ | refine chkV_den ?_ | refine newbox_den fun _ => ?_)
 refine app_new (e := Ty_int) (size := 1) (bytes := 8) (by kernel_rfl) h.s0.field (by simp [ints]; omega) (by simp [ints]; omega) fun x3 C0 H1 l1 p3 => ?_
 replace h := h.le l1
 repeat (first | refine chkN_den ?_ | refine chkV_den ?_ | refine newbox_den fun _ => ?_)
 refine app_new (e := Ty_int) (size := 1) (bytes := 8) (by kernel_rfl) h.s0.grave (by simp [ints]; omega) (by simp [ints]; omega) fun x4 D0 H1 l1 p4 => ?_
 replace h := h.le l1
 repeat (first | refine chkN_den ?_ | refine chkV_den ?_ | refine newbox_den fun _ => ?_)
 refine app_new (e := Ty_int) (size := 1) (bytes := 8) (by kernel_rfl) h.s1.lib (by simp [ints]; omega) (by simp [ints]; omega) fun x5 A1 H1 l1 p5 => ?_
 replace h := h.le l1
 repeat (first | refine chkN_den ?_ | refine chkV_den ?_ | refine newbox_den fun _ => ?_)
 refine app_new (e := Ty_int) (size := 1) (bytes := 8) (by kernel_rfl) h.s1.hand (by simp [ints]; omega) (by simp [ints]; omega) fun x6 B1 H1 l1 p6 => ?_
 replace h := h.le l1
 repeat (first | refine chkN_den ?_ | refine chkV_den ?_ | refine newbox_den fun _ => ?_)
 refine app_new (e := Ty_int) (size := 1) (bytes := 8) (by kernel_rfl) h.s1.field (by simp [ints]; omega) (by simp [ints]; omega) fun x7 C1 H1 l1 p7 => ?_
 replace h := h.le l1
 repeat (first | refine chkN_den ?_ | refine chkV_den ?_ | refine newbox_den fun _ => ?_)
 refine app_new (e := Ty_int) (size := 1) (bytes := 8) (by kernel_rfl) h.s1.grave (by simp [ints]; omega) (by simp [ints]; omega) fun x8 D1 H1 l1 p8 => ?_
 replace h := h.le l1
 repeat (first | refine chkN_den ?_ | refine chkV_den ?_ | refine newbox_den fun _ => ?_)
 refine call_new (r_copied h.stack b10) fun xs H1 Os ps l1 => ⟨_, rfl, ⟨OIts.one ps, trivial⟩, ?_⟩
 replace h := h.le l1
 repeat (first | refine chkN_den ?_ | refine chkV_den ?_ | refine newbox_den fun _ => ?_)
 refine call_new (r_copied h.queue b11) fun xq H1 Oq pq l1 => ⟨_, rfl, ⟨OIts.one pq, trivial⟩, ?_⟩
 replace h := h.le l1
 repeat (first | refine chkN_den ?_ | refine chkV_den ?_ | refine newbox_den fun _ => ?_)
 refine app_new (e := Ty_int) (size := 1) (bytes := 8) (by kernel_rfl) h.att (by simp [ints]; omega) (by simp [ints]; omega) fun xa Oa H1 l1 pa => ?_
 replace h := h.le l1
 repeat (first | refine chkN_den ?_ | refine chkV_den ?_ | refine newbox_den fun _ => ?_)
 refine app_new (e := Ty_api_Block) (size := 2) (bytes := 16) (by kernel_rfl) h.blocks (by simp [ints]; omega) (by simp [ints]; omega) fun xb Obk H1 l1 pb => ?_
 replace h := h.le l1
 repeat (first | refine chkN_den ?_ | refine chkV_den ?_ | refine newbox_den fun _ => ?_)
 refine ret_denO ⟨⟨xo, x1, x2, x3, x4, x5, x6, x7, x8, xs, xq, xa, xb⟩, rfl, Oo, A0, B0, C0, D0, A1, B1, C1, D1, Os, Oq, Oa, Obk, ?_, ⟨po, p1, p2, p3, p4, p5, p6, p7, p8, ps, pq, pa, pb⟩⟩
 refine perm_count fun a _ _ => ?_
 simp only [List.count_append, List.count_nil]
 omega
end Go.Proofs.YtieaihgbjikggaaGreat
namespace Go.Proofs.YtieaihgbjikggaaGreat
open Go Go.Sx
set_option maxRecDepth 100000
set_option maxHeartbeats 1000000
theorem inc_eq (n : Int) : evalPure (.bin .add .int) [iV n, iV 1] = some (iV (IntKind.i64.wrap (n + 1))) := rfl
theorem ptr0 (a : Addr) : ptrAdd (.pointer (some a)) 0 = .pointer (some a) := by simp [ptrAdd, Addr.add]
theorem stain_ints {lab key : Nat} {v : Value} {l : List Int} {A R O : Own} {H : Heap} {Q : Value → Heap → Own → Prop} {eqs : List (List Value × List Value)} {k : Tree} (h : OSl Ty_int 1 v (ints l) A) (hp : O.Perm (A ++ R)) (he : Eqs eqs)
  (hk : ∀ H' O' A', Heap.le H H' → O'.Perm (A' ++ R) → k.den PP Q H' O') :
  (Tree.loop lab key [(.int .i64 0)] fun C l1 =>
   .pure [] .len [v] fun v2 =>
   .pure [] (.bin .lss .int) [(g l1 0), v2] fun v3 =>
   .br v3 (
    .pure [] (.idx 1) [v, (g l1 0)] fun v4 =>
    .load [] v4 1 fun l5 =>
    .pure [] (.bin .add .int) [(g l5 0), (.int .i64 1)] fun v6 =>
    .pure [] (.idx 1) [v, (g l1 0)] fun v7 =>
    .chk (.ptr [] v7) <|
    .store v7 [v6] <|
    .pure [] (.bin .add .int) [(g l1 0), (.int .i64 1)] fun v8 =>
    .cont lab C [v8] eqs) k).den PP Q H O := by
 have hB := h.lenB
 simp only [ints, List.length_map] at hB
 refine count_den l.length (fun i H' O' => Heap.le H H' ∧ ∃ (l' : List Int) (A' : Own), l'.length = l.length ∧ O'.Perm (A' ++ R) ∧ OSl Ty_int 1 v (ints l') A') ⟨Heap.le_refl _, l, A, rfl, hp, h⟩ ?_
 rintro i H' O' hi - ⟨hle, l', A', hl', hp', hA⟩
 have hlen := hA.len
 rw [ints, List.length_map, hl'] at hlen
 refine pure_den _ hlen (pure_den _ (lss_eq _ _) (br_den (fun hb => ?_) (fun hb => hk H' O' A' hle hp')))
 have hlt : i < l.length := by simpa using hb
 have hr : (ints l')[i]? = some [iV l'[i]] := by simp [ints, hl', hlt]
 obtain ⟨a, k1, _, k2, _⟩ := hA.idx (fun p h => hp'.mem_iff.2 (List.mem_append_left _ h)) H' (k := .i64) hr
 obtain ⟨a2, j1, j2⟩ := hA.store hp' (k := .i64) hr
 obtain ⟨A2, hst, hA2⟩ := j2 0 [iV (IntKind.i64.wrap (l'[i] + 1))] (by simp) ⟨rfl, trivial⟩
 rw [ptr0] at hst
 refine pure_den _ k1 (load_denR k2 rfl ⟨rfl, trivial⟩ (pure_den _ (inc_eq _) (pure_den _ j1 (chkP_den rfl ⟨_, hst, ?_⟩))))
 refine pure_den _ (add_one (by omega)) (count_cont he hlt ⟨hle, l'.set i (IntKind.i64.wrap (l'[i] + 1)), A2, by simp [hl'], List.Perm.refl _, ?_⟩)
 have e : (ints l').set i (splice [iV l'[i]] 0 [iV (IntKind.i64.wrap (l'[i] + 1))]) = ints (l'.set i (IntKind.i64.wrap (l'[i] + 1))) := by simp [ints, splice, List.map_set]
 rwa [e] at hA2
theorem flatten_pick : ∀ {Ts : List Own} {i : Nat} (h : i < Ts.length), (List.flatten Ts).Perm (Ts[i] ++ List.flatten (Ts.eraseIdx i)) ∧ ∀ T, (List.flatten (Ts.set i T)).Perm (T ++ List.flatten (Ts.eraseIdx i))
 | [], _, h => absurd h (Nat.not_lt_zero _)
 | a :: r, 0, _ => by simp
 | a :: r, i + 1, h => by
  have h' : i < r.length := by simpa using h
  obtain ⟨h1, h2⟩ := flatten_pick h'
  refine ⟨?_, fun T => ?_⟩
  ·simp only [List.flatten_cons, List.getElem_cons_succ, List.eraseIdx_cons_succ]
   exact (h1.append_left a).trans (List.perm_append_comm_assoc _ _ _)
  ·simp only [List.set_cons_succ, List.flatten_cons, List.eraseIdx_cons_succ]
   exact ((h2 T).append_left a).trans (List.perm_append_comm_assoc _ _ _)
theorem stain_items {lab key lab2 key2 : Nat} {v : Value} {l : List It} {A R O : Own} {H : Heap} {Q : Value → Heap → Own → Prop} {eqs : List (List Value × List Value)} {eqs2 : List Value → List (List Value × List Value)} {k : Tree} (h : OIts Ty_api_Target Ty_api_Item v l A) (hp : O.Perm (A ++ R)) (he : Eqs eqs) (he2 : ∀ x, Eqs (eqs2 x))
  (hk : ∀ H' O' A', Heap.le H H' → O'.Perm (A' ++ R) → k.den PP Q H' O') :
  (Tree.loop lab key [(.int .i64 0)] fun C l1 =>
   .pure [] .len [v] fun v2 =>
   .pure [] (.bin .lss .int) [(g l1 0), v2] fun v3 =>
   .br v3 (
    .pure [] (.idx 5) [v, (g l1 0)] fun v77 =>
    .chk (.ptr [] v77) <|
    .load [] (ptrAdd v77 2) 1 fun l78 =>
    .pure [] (.bin .add .int) [(g l78 0), (.int .i64 1)] fun v79 =>
    .pure [] (.idx 5) [v, (g l1 0)] fun v80 =>
    .chk (.ptr [] v80) <|
    .chk (.ptr [] (ptrAdd v80 2)) <|
    .store (ptrAdd v80 2) [v79] <|
    .loop lab2 key2 [(.int .i64 0)] fun C150 l81 =>
     .pure [] (.idx 5) [v, (g l1 0)] fun v82 =>
     .chk (.ptr [] v82) <|
     .load [] (ptrAdd v82 4) 1 fun l83 =>
     .pure [] .len [(g l83 0)] fun v84 =>
     .pure [] (.bin .lss .int) [(g l81 0), v84] fun v85 =>
     .br v85 (
      .pure [] (.idx 5) [v, (g l1 0)] fun v86 =>
      .chk (.ptr [] v86) <|
      .load [] (ptrAdd v86 4) 1 fun l87 =>
      .pure [] (.idx 2) [(g l87 0), (g l81 0)] fun v88 =>
      .chk (.ptr [] v88) <|
      .load [] v88 1 fun l89 =>
      .pure [] (.bin .add .int) [(g l89 0), (.int .i64 1)] fun v90 =>
      .pure [] (.idx 2) [(g l87 0), (g l81 0)] fun v91 =>
      .chk (.ptr [] v91) <|
      .chk (.ptr [] v91) <|
      .store v91 [v90] <|
      .pure [] (.bin .add .int) [(g l81 0), (.int .i64 1)] fun v92 =>
      .cont lab2 C150 [v92] (eqs2 l1)) (
      .pure [] (.bin .add .int) [(g l1 0), (.int .i64 1)] fun v93 =>
      .cont lab C [v93] eqs)) k).den PP Q H O := by
 have hB : l.length < 2 ^ 63 := by
  obtain ⟨rows, _, _, _, h1, h2, _⟩ := h
  rw [← h2]; exact h1.lenB
 refine count_den l.length (fun i H' O' => Heap.le H H' ∧ ∃ (l' : List It) (A' : Own), l'.length = l.length ∧ O'.Perm (A' ++ R) ∧ OIts Ty_api_Target Ty_api_Item v l' A') ⟨Heap.le_refl _, l, A, rfl, hp, h⟩ ?_
 rintro i H' O' hi - ⟨hle, l', A', hl', hp', hA⟩
 have hlen := ItsR.len (hA.r (fun p hp => hp) H')
 rw [hl'] at hlen
 refine pure_den _ hlen (pure_den _ (lss_eq _ _) (br_den (fun hb => ?_) (fun hb => hk H' O' A' hle hp')))
 have hlt : i < l.length := by simpa using hb
 obtain ⟨rows, B, Ts, hpB, hO, hrl, htl, hspec⟩ := hA
 have hp1 : O'.Perm (B ++ (List.flatten Ts ++ R)) := hp'.trans ((hpB.append_right R).trans (List.Perm.of_eq (List.append_assoc _ _ _)))
 have hri : rows[i]? = some rows[i] := List.getElem?_eq_getElem (by omega)
 obtain ⟨s, hrow, hT⟩ := hspec i rows[i] l'[i] Ts[i] hri (List.getElem?_eq_getElem (by omega)) (List.getElem?_eq_getElem (by omega))
 obtain ⟨a, k1, _, _, k3⟩ := hO.idx (fun p h => hp1.mem_iff.2 (List.mem_append_left _ h)) H' (k := .i64) hri
 have hr2 := k3 2 1 (by omega)
 rw [hrow] at hr2
 obtain ⟨a2, j1, j2⟩ := hO.store hp1 (k := .i64) hri
 obtain ⟨B2, hst, hO2⟩ := j2 2 [iV (IntKind.i64.wrap (l'[i].card + 1))] (by simp) ⟨rfl, trivial⟩
 refine pure_den _ k1 (chkP_den rfl (load_denR hr2 rfl ⟨rfl, trivial⟩ (pure_den _ (inc_eq _) (pure_den _ j1 (chkP_den rfl (chkP_den rfl ⟨_, hst, ?_⟩))))))
 have hsp : splice rows[i] 2 [iV (IntKind.i64.wrap (l'[i].card + 1))] = [iV l'[i].player, iV l'[i].id, iV (IntKind.i64.wrap (l'[i].card + 1)), iV l'[i].trig, s] := by rw [hrow]; rfl
 rw [hsp] at hO2
 have tB : l'[i].tgs.length < 2 ^ 63 := by have := hT.lenB; rwa [List.length_map] at this
 refine count_den l'[i].tgs.length (fun j H'' O'' => Heap.le H' H'' ∧ ∃ (l2 : List It) (A2 : Own), l2.length = l.length ∧ O''.Perm (A2 ++ R) ∧ OIts Ty_api_Target Ty_api_Item v l2 A2 ∧ (l2[i]?.map fun x => x.tgs.length) = some l'[i].tgs.length) ?_ ?_
 ·refine ⟨Heap.le_refl _, l'.set i { l'[i] with card := IntKind.i64.wrap (l'[i].card + 1) }, B2 ++ List.flatten Ts, by simp [hl'], List.Perm.of_eq (List.append_assoc _ _ _).symm, ⟨_, B2, Ts, List.Perm.refl _, hO2, by simp [hrl], by simp [htl], ?_⟩, ?_⟩
  ·intro j r x T h1 h2 h3
   by_cases hj : j = i
   ·subst hj
    rw [List.getElem?_set_self (by omega)] at h1 h2
    rw [List.getElem?_eq_getElem (by omega)] at h3
    simp only [Option.some.injEq] at h1 h2 h3
    subst h1; subst h2; subst h3
    exact ⟨s, rfl, hT⟩
   ·rw [List.getElem?_set_ne (by omega)] at h1 h2
    exact hspec j r x T h1 h2 h3
  ·rw [List.getElem?_set_self (by omega)]; rfl
 clear hO2 hst j1 j2 hr2 k3 k1 hspec hT hrow hri hO hpB hp1 hp'
 rintro j H2 O2 hj - ⟨hle2, l2, A2, hl2, hp2, ⟨rows2, B3, Ts2, hpB, hO, hrl2, htl2, hspec⟩, htg⟩
 have hi2 : l2[i]? = some l2[i] := List.getElem?_eq_getElem (by omega)
 rw [hi2, Option.map_some, Option.some.injEq] at htg
 have hp1 : O2.Perm (B3 ++ (List.flatten Ts2 ++ R)) := hp2.trans ((hpB.append_right R).trans (List.Perm.of_eq (List.append_assoc _ _ _)))
 have hri : rows2[i]? = some rows2[i] := List.getElem?_eq_getElem (by omega)
 have hti : Ts2[i]? = some Ts2[i] := List.getElem?_eq_getElem (by omega)
 obtain ⟨s, hrow, hT⟩ := hspec i rows2[i] l2[i] Ts2[i] hri hi2 hti
 obtain ⟨a, k1, _, _, k3⟩ := hO.idx (fun p h => hp1.mem_iff.2 (List.mem_append_left _ h)) H2 (k := .i64) hri
 have hr4 := k3 4 1 (by omega)
 rw [hrow] at hr4
 have tlen := hT.len
 rw [List.length_map, htg] at tlen
 refine pure_den _ k1 (chkP_den rfl (load_denR hr4 rfl ⟨hT.one, trivial⟩ (pure_den _ tlen (pure_den _ (lss_eq _ _) (br_den (fun hb => ?_) (fun hb => ?_))))))
 ·have hltj : j < l'[i].tgs.length := by simpa using hb
  have hltj2 : j < l2[i].tgs.length := by omega
  obtain ⟨hf1, hf2⟩ := flatten_pick (Ts := Ts2) (i := i) (by omega)
  have hp3 : O2.Perm (Ts2[i] ++ (B3 ++ (List.flatten (Ts2.eraseIdx i) ++ R))) := by
   refine hp1.trans (((hf1.append_right R).append_left B3).trans ?_)
   rw [List.append_assoc]
   exact List.perm_append_comm_assoc _ _ _
  have htr : (l2[i].tgs.map Tg.row)[j]? = some (Tg.row l2[i].tgs[j]) := by simp [hltj2]
  obtain ⟨b, m1, _, _, m3⟩ := hT.idx (fun p h => hp3.mem_iff.2 (List.mem_append_left _ h)) H2 (k := .i64) htr
  have hr0 := m3 0 1 (by omega)
  rw [ptr0] at hr0
  obtain ⟨b2, n1, n2⟩ := hT.store hp3 (k := .i64) htr
  obtain ⟨T', hst, hT'⟩ := n2 0 [iV (IntKind.i64.wrap (l2[i].tgs[j].id + 1))] (by simp) ⟨rfl, trivial⟩
  rw [ptr0] at hst
  refine pure_den _ k1 (chkP_den rfl (load_denR hr4 rfl ⟨hT.one, trivial⟩ (pure_den _ m1 (chkP_den rfl (load_denR hr0 rfl ⟨rfl, trivial⟩ (pure_den _ (inc_eq _) (pure_den _ n1 (chkP_den rfl (chkP_den rfl ⟨_, hst, ?_⟩)))))))))
  have htgs : (l2[i].tgs.map Tg.row).set j (splice (Tg.row l2[i].tgs[j]) 0 [iV (IntKind.i64.wrap (l2[i].tgs[j].id + 1))]) = (l2[i].tgs.set j { l2[i].tgs[j] with id := IntKind.i64.wrap (l2[i].tgs[j].id + 1) }).map Tg.row := by
   rw [List.map_set]; rfl
  rw [htgs] at hT'
  refine pure_den _ (add_one (by omega)) (count_cont (he2 _) hltj ⟨hle2, l2.set i { l2[i] with tgs := l2[i].tgs.set j { l2[i].tgs[j] with id := IntKind.i64.wrap (l2[i].tgs[j].id + 1) } }, B3 ++ List.flatten (Ts2.set i T'), by simp [hl2], ?_, ⟨rows2, B3, Ts2.set i T', List.Perm.refl _, hO, by simp [hrl2], by simp [htl2], ?_⟩, ?_⟩)
  ·rw [List.append_assoc]
   refine List.Perm.trans (List.perm_append_comm_assoc _ _ _) (List.Perm.append_left B3 ?_)
   rw [← List.append_assoc]
   exact (hf2 T').symm.append_right R
  ·intro q r x T h1 h2 h3
   by_cases hq : q = i
   ·subst hq
    rw [List.getElem?_set_self (by omega)] at h2 h3
    rw [hri] at h1
    simp only [Option.some.injEq] at h1 h2 h3
    subst h1; subst h2; subst h3
    exact ⟨s, hrow, hT'⟩
   ·rw [List.getElem?_set_ne (by omega)] at h2 h3
    exact hspec q r x T h1 h2 h3
  ·rw [List.getElem?_set_self (by omega)]
   simp [htg]
 ·refine pure_den _ (add_one (by omega)) (count_cont he hlt ⟨Heap.le_trans hle hle2, l2, A2, hl2, hp2, ⟨rows2, B3, Ts2, hpB, hO, hrl2, htl2, hspec⟩⟩)
end Go.Proofs.YtieaihgbjikggaaGreat
namespace Go.Proofs.YtieaihgbjikggaaGreat
open Go Go.Sx
set_option maxRecDepth 100000
set_option maxHeartbeats 1000000
theorem ownB_ones {w : BV12} {b : Bd} {O : Own} (H : Heap) (h : OwnB tys w b O) : Ones (boardC w b) := boardC_ones (h.r (fun _ h => h) H)
theorem c_stain {H : Heap} {w : BV12} {b : Bd} {O : Own} (h : OwnB tys w b O) : Triple PP F_zeitnotlaw18_stain [.agg (boardC w b).toArray] H O fun r _ _ => r = .tuple #[] := by
 refine run_zeitnotlaw18_stain (vs := boardC w b) (by kernel_rfl) (ownB_ones H h) ?_
 simp only [T_zeitnotlaw18_stain]
 obtain ⟨Oo, A0, B0, C0, D0, A1, B1, C1, D1, Os, Oq, Oa, Obk, hp, h⟩ := h
 refine newbox_den fun r0 => ?_
 have hB := h.objs.lenB
 rw [List.length_map] at hB
 refine count_den b.objs.length (fun i H' O' => Heap.le H H' ∧ ∃ (l' : List Ob) (A' : Own), l'.length = b.objs.length ∧ O'.Perm (A' ++ (A0 ++ (B0 ++ (C0 ++ (D0 ++ (A1 ++ (B1 ++ (C1 ++ (D1 ++ (Os ++ (Oq ++ (Oa ++ Obk)))))))))))) ∧ OSl Ty_api_Object 12 w.o (l'.map Ob.row) A') ⟨Heap.le_refl _, b.objs, Oo, rfl, hp, h.objs⟩ ?_
 rintro i H' O' hi - ⟨hle, l', A', hl', hp', hA⟩
 have hlen := hA.len
 rw [List.length_map, hl'] at hlen
 refine chkN_den (pure_den _ hlen (pure_den _ (lss_eq _ _) (br_den (fun hb => ?_) (fun _ => ?_))))
 ·have hlt : i < b.objs.length := by simpa using hb
  have hr : (l'.map Ob.row)[i]? = some (Ob.row l'[i]) := by simp [hl', hlt]
  obtain ⟨a, k1, _, _, k3⟩ := hA.idx (fun p h => hp'.mem_iff.2 (List.mem_append_left _ h)) H' (k := .i64) hr
  have hr5 := k3 5 1 (by omega)
  obtain ⟨a2, j1, j2⟩ := hA.store hp' (k := .i64) hr
  obtain ⟨A2, hst, hA2⟩ := j2 5 [iV (IntKind.i64.wrap (l'[i].dmg + 1))] (by simp) ⟨rfl, trivial⟩
  refine chkN_den (pure_den _ k1 (chkP_den rfl (load_denR hr5 rfl ⟨rfl, trivial⟩ (pure_den _ (inc_eq _) (pure_den _ j1 (chkP_den rfl (chkP_den rfl ⟨_, hst, ?_⟩)))))))
  refine pure_den _ (add_one (by omega)) (count_cont (by simp [Eqs]) hlt ⟨hle, l'.set i { l'[i] with dmg := IntKind.i64.wrap (l'[i].dmg + 1) }, A2, by simp [hl'], List.Perm.refl _, ?_⟩)
  have e : (l'.map Ob.row).set i (splice (Ob.row l'[i]) 5 [iV (IntKind.i64.wrap (l'[i].dmg + 1))]) = (l'.set i { l'[i] with dmg := IntKind.i64.wrap (l'[i].dmg + 1) }).map Ob.row := by rw [List.map_set]; rfl
  rwa [e] at hA2
 clear hle hlen hi hA
 have mv : ∀ {O X Y Z : Own}, O.Perm (X ++ (Y ++ Z)) → O.Perm (Y ++ (X ++ Z)) := fun h => h.trans (List.perm_append_comm_assoc _ _ _)
 have asc : ∀ {O X Y Z : Own}, O.Perm (X ++ (Y ++ Z)) → O.Perm ((X ++ Y) ++ Z) := fun h => h.trans (List.Perm.of_eq (List.append_assoc _ _ _).symm)
 have ea : ∀ {s : St} {v1 v2 v3 v4 : Value} {X1 X2 X3 X4 : Own}, OSl Ty_int 1 v1 (ints s.lib) X1 → OSl Ty_int 1 v2 (ints s.hand) X2 → OSl Ty_int 1 v3 (ints s.field) X3 → OSl Ty_int 1 v4 (ints s.grave) X4 → v1.oneCell' = true ∧ v2.oneCell' = true ∧ v3.oneCell' = true ∧ v4.oneCell' = true := fun a b c d => ⟨a.one, b.one, c.one, d.one⟩
 obtain ⟨z1, z2, z3, z4⟩ := ea (s := b.s0) h.l0 h.h0 h.f0 h.g0
 refine chkN_den (call_retO (r_Zones b.s0 z1 z2 z3 z4 _ _) rfl ⟨z1, z2, z3, z4, trivial⟩ fun HZ _ => ?_)
 refine stain_ints h.l0 (mv hp') (by simp [Eqs]) fun H1 O1 X1 _ p1 => ?_
 replace p1 := asc p1
 refine stain_ints h.h0 (mv p1) (by simp [Eqs]) fun H2 O2 X2 _ p2 => ?_
 replace p2 := asc p2
 refine stain_ints h.f0 (mv p2) (by simp [Eqs]) fun H3 O3 X3 _ p3 => ?_
 replace p3 := asc p3
 refine stain_ints h.g0 (mv p3) (by simp [Eqs]) fun H4 O4 X4 _ p4 => ?_
 replace p4 := asc p4
 obtain ⟨z1, z2, z3, z4⟩ := ea (s := b.s1) h.l1 h.h1 h.f1 h.g1
 refine chkN_den (call_retO (r_Zones b.s1 z1 z2 z3 z4 _ _) rfl ⟨z1, z2, z3, z4, trivial⟩ fun HZ _ => ?_)
 refine stain_ints h.l1 (mv p4) (by simp [Eqs]) fun H5 O5 X5 _ p5 => ?_
 replace p5 := asc p5
 refine stain_ints h.h1 (mv p5) (by simp [Eqs]) fun H6 O6 X6 _ p6 => ?_
 replace p6 := asc p6
 refine stain_ints h.f1 (mv p6) (by simp [Eqs]) fun H7 O7 X7 _ p7 => ?_
 replace p7 := asc p7
 refine stain_ints h.g1 (mv p7) (by simp [Eqs]) fun H8 O8 X8 _ p8 => ?_
 replace p8 := asc p8
 repeat (first | refine chkN_den ?_ | refine chkV_den ?_)
 refine newbox_den fun r1 => ?_
 repeat (first | refine chkN_den ?_ | refine chkV_den ?_)
 refine stain_items h.stack (mv p8) (by simp [Eqs]) (by intro x; simp [Eqs]) fun H9 O9 X9 _ p9 => ?_
 replace p9 := asc p9
 repeat (first | refine chkN_den ?_ | refine chkV_den ?_)
 refine stain_items h.queue (mv p9) (by simp [Eqs]) (by intro x; simp [Eqs]) fun H10 O10 X10 _ p10 => ?_
 replace p10 := asc p10
 have hq := mv p10
 have hBa := h.att.lenB
 simp only [ints, List.length_map] at hBa
 generalize hR : (_ ++ Obk : Own) = R at hq
 refine count_den b.att.length (fun i H' O' => ∃ (l' : List Int) (A' : Own), l'.length = b.att.length ∧ O'.Perm (A' ++ R) ∧ OSl Ty_int 1 w.a (ints l') A') ⟨b.att, Oa, rfl, hq, h.att⟩ ?_
 rintro i H' O' hi - ⟨l', A', hl', hp', hA⟩
 have hlen := hA.len
 rw [ints, List.length_map, hl'] at hlen
 refine chkN_den (pure_den _ hlen (pure_den _ (lss_eq _ _) (br_den (fun hb => ?_) (fun _ => ?_))))
 ·have hlt : i < b.att.length := by simpa using hb
  have hr : (ints l')[i]? = some [iV l'[i]] := by simp [ints, hl', hlt]
  obtain ⟨a, k1, _, k2, _⟩ := hA.idx (fun p h => hp'.mem_iff.2 (List.mem_append_left _ h)) H' (k := .i64) hr
  obtain ⟨a2, j1, j2⟩ := hA.store hp' (k := .i64) hr
  obtain ⟨A2, hst, hA2⟩ := j2 0 [iV (IntKind.i64.wrap (l'[i] + 1))] (by simp) ⟨rfl, trivial⟩
  rw [ptr0] at hst
  refine chkN_den (pure_den _ k1 (load_denR k2 rfl ⟨rfl, trivial⟩ (pure_den _ (inc_eq _) (pure_den _ j1 (chkP_den rfl ⟨_, hst, ?_⟩)))))
  refine pure_den _ (add_one (by omega)) (count_cont (by simp [Eqs]) hlt ⟨l'.set i (IntKind.i64.wrap (l'[i] + 1)), A2, by simp [hl'], List.Perm.refl _, ?_⟩)
  have e : (ints l').set i (splice [iV l'[i]] 0 [iV (IntKind.i64.wrap (l'[i] + 1))]) = ints (l'.set i (IntKind.i64.wrap (l'[i] + 1))) := by simp [ints, splice, List.map_set]
  rwa [e] at hA2
 subst hR
 have hq := asc hp'
 have hq := hq.trans List.perm_append_comm
 have hBb := h.blocks.lenB
 rw [List.length_map] at hBb
 generalize hR : (A' ++ _ : Own) = R at hq
 refine count_den b.blocks.length (fun i H' O' => ∃ (l' : List Bl) (A' : Own), l'.length = b.blocks.length ∧ O'.Perm (A' ++ R) ∧ OSl Ty_api_Block 2 w.b (l'.map Bl.row) A') ⟨b.blocks, Obk, rfl, hq, h.blocks⟩ ?_
 rintro i H2' O2' hi - ⟨l2, B2, hl2, hp2, hB2⟩
 have hlen := hB2.len
 rw [List.length_map, hl2] at hlen
 refine chkN_den (pure_den _ hlen (pure_den _ (lss_eq _ _) (br_den (fun hb => ?_) (fun _ => ?_))))
 ·have hlt : i < b.blocks.length := by simpa using hb
  have hr : (l2.map Bl.row)[i]? = some (Bl.row l2[i]) := by simp [hl2, hlt]
  obtain ⟨a, k1, _, _, k3⟩ := hB2.idx (fun p h => hp2.mem_iff.2 (List.mem_append_left _ h)) H2' (k := .i64) hr
  have hr0 := k3 0 1 (by omega)
  rw [ptr0] at hr0
  obtain ⟨a2, j1, j2⟩ := hB2.store hp2 (k := .i64) hr
  obtain ⟨A2, hst, hA2⟩ := j2 0 [iV (IntKind.i64.wrap (l2[i].blocker + 1))] (by simp) ⟨rfl, trivial⟩
  rw [ptr0] at hst
  refine chkN_den (pure_den _ k1 (chkP_den rfl (load_denR hr0 rfl ⟨rfl, trivial⟩ (pure_den _ (inc_eq _) (pure_den _ j1 (chkP_den rfl (chkP_den rfl ⟨_, hst, ?_⟩)))))))
  refine pure_den _ (add_one (by omega)) (count_cont (by simp [Eqs]) hlt ⟨l2.set i { l2[i] with blocker := IntKind.i64.wrap (l2[i].blocker + 1) }, A2, by simp [hl2], List.Perm.refl _, ?_⟩)
  have e : (l2.map Bl.row).set i (splice (Bl.row l2[i]) 0 [iV (IntKind.i64.wrap (l2[i].blocker + 1))]) = (l2.set i { l2[i] with blocker := IntKind.i64.wrap (l2[i].blocker + 1) }).map Bl.row := by rw [List.map_set]; rfl
  rwa [e] at hA2
 exact ret_denO rfl
end Go.Proofs.YtieaihgbjikggaaGreat
namespace Go.Proofs.YtieaihgbjikggaaGreat
open Go Go.Sx
set_option maxRecDepth 100000
set_option maxHeartbeats 1000000
theorem map_of {α : Type} {f : α → List Value} : ∀ {rows : List (List Value)}, (∀ r ∈ rows, ∃ x, r = f x) → ∃ l : List α, rows = l.map f
 | [], _ => ⟨[], rfl⟩
 | r :: rs, h => by
  obtain ⟨l, hl⟩ := map_of (rows := rs) fun x hx => h x (by simp [hx])
  obtain ⟨x, rfl⟩ := h r (by simp)
  exact ⟨x :: l, by rw [hl]; rfl⟩
theorem sl_row {H : Heap} {size : Nat} {v : Value} {rows : List (List Value)} (h : Sl H size v rows) {r : List Value} (hr : r ∈ rows) : r.length = size := by
 obtain ⟨i, hlt, rfl⟩ := List.getElem_of_mem hr
 obtain ⟨_, _, _, h3, _⟩ := h.idx (k := .i64) (List.getElem?_eq_getElem hlt)
 exact h3
theorem get_g {r : List Value} {i : Nat} {c : Value} (h : r[i]? = some c) : c = g r i := by rw [g_get h]
theorem leavesOb : leaves PP 5 Ty_api_Object = some [3, 3, 3, 3, 3, 3, 3, 3, 3, 4, 4, 4] := by kernel_rfl
theorem leavesTg : leaves PP 5 Ty_api_Target = some [3, 3] := by kernel_rfl
theorem leavesBl : leaves PP 5 Ty_api_Block = some [3, 3] := by kernel_rfl
theorem leavesIt : leaves PP 5 Ty_api_Item = some [3, 3, 3, 3, 39] := by kernel_rfl
theorem leavesBd : leaves PP 6 34 = some [23, 3, 3, 3, 3, 3, 26, 26, 26, 26, 4, 4, 4, 3, 3, 3, 3, 3, 3, 3, 26, 26, 26, 26, 4, 4, 4, 3, 3, 30, 30, 26, 31, 3, 3, 32, 3, 3] := by kernel_rfl
theorem leaf_int {H : Heap} {c : Value} (h : Leaf PP H 3 c) : ∃ x, c = iV x := let ⟨x, e, _⟩ := h.int Tryz.underlying3; ⟨x, e⟩
theorem leaf_bool {H : Heap} {c : Value} (h : Leaf PP H 4 c) : ∃ x, c = .bool x := h.bool Tryz.underlying4
theorem leaf_at {H : Heap} {k : Nat} {t : TypeId} {ds : List Value} {ls : List TypeId} {n : Nat} (hl : leaves PP n t = some ls) (hw : Wf PP H k t ds) (i : Nat) (l : TypeId) (hi : ls[i]? = some l) : Leaf PP H l (g ds i) := by
 obtain ⟨c, h1, h2⟩ := leaf_get hl hw i l hi
 rw [← get_g h1]; exact h2
theorem read_ob {H : Heap} {k : Nat} {r : List Value} (hw : Wf PP H k Ty_api_Object r) (hl : r.length = 12) : ∃ o, r = Ob.row o := by
 have a := fun i l h => leaf_at leavesOb hw i l h
 obtain ⟨x0, e0⟩ := leaf_int (a 0 3 rfl)
 obtain ⟨x1, e1⟩ := leaf_int (a 1 3 rfl)
 obtain ⟨x2, e2⟩ := leaf_int (a 2 3 rfl)
 obtain ⟨x3, e3⟩ := leaf_int (a 3 3 rfl)
 obtain ⟨x4, e4⟩ := leaf_int (a 4 3 rfl)
 obtain ⟨x5, e5⟩ := leaf_int (a 5 3 rfl)
 obtain ⟨x6, e6⟩ := leaf_int (a 6 3 rfl)
 obtain ⟨x7, e7⟩ := leaf_int (a 7 3 rfl)
 obtain ⟨x8, e8⟩ := leaf_int (a 8 3 rfl)
 obtain ⟨x9, e9⟩ := leaf_bool (a 9 4 rfl)
 obtain ⟨x10, e10⟩ := leaf_bool (a 10 4 rfl)
 obtain ⟨x11, e11⟩ := leaf_bool (a 11 4 rfl)
 match r, hl with
 | [_, _, _, _, _, _, _, _, _, _, _, _], _ =>
  refine ⟨⟨x0, x1, x2, x3, x4, x5, x6, x7, x8, x9, x10, x11⟩, ?_⟩
  simp only [g, List.getD_cons_zero, List.getD_cons_succ] at e0 e1 e2 e3 e4 e5 e6 e7 e8 e9 e10 e11
  rw [e0, e1, e2, e3, e4, e5, e6, e7, e8, e9, e10, e11]; rfl
theorem read_two {H : Heap} {k : Nat} {t : TypeId} (ht : leaves PP 5 t = some [3, 3]) {r : List Value} (hw : Wf PP H k t r) (hl : r.length = 2) : ∃ x y : Int, r = [iV x, iV y] := by
 obtain ⟨x0, e0⟩ := leaf_int (leaf_at ht hw 0 3 rfl)
 obtain ⟨x1, e1⟩ := leaf_int (leaf_at ht hw 1 3 rfl)
 match r, hl with
 | [_, _], _ =>
  refine ⟨x0, x1, ?_⟩
  simp only [g, List.getD_cons_zero, List.getD_cons_succ] at e0 e1
  rw [e0, e1]
theorem read_its {H : Heap} {v : Value} (h : Leaf PP H 30 v) : ∃ l, ItsS H v l := by
 obtain ⟨rows, hs, n, hw⟩ := h.slice Tryz.underlying30
 have hc : PP.cellsOf 41 = 5 := by kernel_rfl
 rw [hc] at hs
 have key : ∀ r ∈ rows, ∃ (x : It) (s : Value), r = [iV x.player, iV x.id, iV x.card, iV x.trig, s] ∧ Sl H 2 s (x.tgs.map Tg.row) := by
  intro r hr
  have hl := sl_row hs hr
  have hw := hw r hr
  obtain ⟨x0, e0⟩ := leaf_int (leaf_at leavesIt hw 0 3 rfl)
  obtain ⟨x1, e1⟩ := leaf_int (leaf_at leavesIt hw 1 3 rfl)
  obtain ⟨x2, e2⟩ := leaf_int (leaf_at leavesIt hw 2 3 rfl)
  obtain ⟨x3, e3⟩ := leaf_int (leaf_at leavesIt hw 3 3 rfl)
  obtain ⟨trows, ts, m, tw⟩ := (leaf_at leavesIt hw 4 39 rfl).slice Tryz.underlying39
  have hc2 : PP.cellsOf 43 = 2 := by kernel_rfl
  rw [hc2] at ts
  obtain ⟨tl, rfl⟩ := map_of (f := Tg.row) (rows := trows) fun r hr => by
   obtain ⟨x, y, e⟩ := read_two leavesTg (tw r hr) (sl_row ts hr)
   exact ⟨⟨x, y⟩, e⟩
  match r, hl with
  | [_, _, _, _, s], _ =>
   refine ⟨⟨x0, x1, x2, x3, tl⟩, s, ?_, ?_⟩
   ·simp only [g, List.getD_cons_zero, List.getD_cons_succ] at e0 e1 e2 e3
    rw [e0, e1, e2, e3]
   ·simpa [g] using ts
 have : ∃ l : List It, rows.length = l.length ∧ ∀ (i : Nat) (r : List Value) (x : It), rows[i]? = some r → l[i]? = some x → ∃ s, r = [iV x.player, iV x.id, iV x.card, iV x.trig, s] ∧ Sl H 2 s (x.tgs.map Tg.row) := by
  clear hs hw
  induction rows with
  | nil => exact ⟨[], rfl, fun i r x h => by simp at h⟩
  | cons r rs ih =>
   obtain ⟨l, h1, h2⟩ := ih fun x hx => key x (by simp [hx])
   obtain ⟨x, s, h3, h4⟩ := key r (by simp)
   refine ⟨x :: l, by simp [h1], fun i r' x' e1 e2 => ?_⟩
   cases i with
   | zero => simp at e1 e2; subst e1; subst e2; exact ⟨s, h3, h4⟩
   | succ i => exact h2 i r' x' (by simpa using e1) (by simpa using e2)
 obtain ⟨l, h1, h2⟩ := this
 exact ⟨l, rows, hs, h1, h2⟩
theorem read_ints {H : Heap} {v : Value} (h : Leaf PP H 26 v) : ∃ l, Sl H 1 v (ints l) := by
 obtain ⟨rows, hs, n, hw⟩ := h.slice Tryz.underlying26
 have hc : PP.cellsOf 3 = 1 := by kernel_rfl
 rw [hc] at hs
 obtain ⟨l, rfl⟩ := wf_ints Tryz.underlying3 hw
 exact ⟨l, hs⟩
theorem read_board {H : Heap} {cs : List Value} (hlen : cs.length = 38) (a : ∀ i l, ([23, 3, 3, 3, 3, 3, 26, 26, 26, 26, 4, 4, 4, 3, 3, 3, 3, 3, 3, 3, 26, 26, 26, 26, 4, 4, 4, 3, 3, 30, 30, 26, 31, 3, 3, 32, 3, 3] : List TypeId)[i]? = some l → Leaf PP H l (g cs i)) : ∃ v b, cs = boardC v b ∧ BdS H v b := by
 obtain ⟨orows, os, on, ow⟩ := (a 0 23 rfl).slice Tryz.underlying23
 have hc : PP.cellsOf 76 = 12 := by kernel_rfl
 rw [hc] at os
 obtain ⟨ol, rfl⟩ := map_of (f := Ob.row) (rows := orows) fun r hr => read_ob (ow r hr) (sl_row os hr)
 obtain ⟨brows, bs, bn, bw⟩ := (a 32 31 rfl).slice Tryz.underlying31
 have hc2 : PP.cellsOf 123 = 2 := by kernel_rfl
 rw [hc2] at bs
 obtain ⟨bl, rfl⟩ := map_of (f := Bl.row) (rows := brows) fun r hr => by
  obtain ⟨x, y, e⟩ := read_two leavesBl (bw r hr) (sl_row bs hr)
  exact ⟨⟨x, y⟩, e⟩
 obtain ⟨l0, hl0⟩ := read_ints (a 6 26 rfl)
 obtain ⟨h0, hh0⟩ := read_ints (a 7 26 rfl)
 obtain ⟨f0, hf0⟩ := read_ints (a 8 26 rfl)
 obtain ⟨g0, hg0⟩ := read_ints (a 9 26 rfl)
 obtain ⟨l1, hl1⟩ := read_ints (a 20 26 rfl)
 obtain ⟨h1, hh1⟩ := read_ints (a 21 26 rfl)
 obtain ⟨f1, hf1⟩ := read_ints (a 22 26 rfl)
 obtain ⟨g1, hg1⟩ := read_ints (a 23 26 rfl)
 obtain ⟨st, hst⟩ := read_its (a 29 30 rfl)
 obtain ⟨qu, hqu⟩ := read_its (a 30 30 rfl)
 obtain ⟨at_, hat⟩ := read_ints (a 31 26 rfl)
 obtain ⟨i1, e1⟩ := leaf_int (a 1 3 rfl)
 obtain ⟨i2, e2⟩ := leaf_int (a 2 3 rfl)
 obtain ⟨i3, e3⟩ := leaf_int (a 3 3 rfl)
 obtain ⟨i4, e4⟩ := leaf_int (a 4 3 rfl)
 obtain ⟨i5, e5⟩ := leaf_int (a 5 3 rfl)
 obtain ⟨i10, e10⟩ := leaf_bool (a 10 4 rfl)
 obtain ⟨i11, e11⟩ := leaf_bool (a 11 4 rfl)
 obtain ⟨i12, e12⟩ := leaf_bool (a 12 4 rfl)
 obtain ⟨i13, e13⟩ := leaf_int (a 13 3 rfl)
 obtain ⟨i14, e14⟩ := leaf_int (a 14 3 rfl)
 obtain ⟨i15, e15⟩ := leaf_int (a 15 3 rfl)
 obtain ⟨i16, e16⟩ := leaf_int (a 16 3 rfl)
 obtain ⟨i17, e17⟩ := leaf_int (a 17 3 rfl)
 obtain ⟨i18, e18⟩ := leaf_int (a 18 3 rfl)
 obtain ⟨i19, e19⟩ := leaf_int (a 19 3 rfl)
 obtain ⟨i24, e24⟩ := leaf_bool (a 24 4 rfl)
 obtain ⟨i25, e25⟩ := leaf_bool (a 25 4 rfl)
 obtain ⟨i26, e26⟩ := leaf_bool (a 26 4 rfl)
 obtain ⟨i27, e27⟩ := leaf_int (a 27 3 rfl)
 obtain ⟨i28, e28⟩ := leaf_int (a 28 3 rfl)
 obtain ⟨i33, e33⟩ := leaf_int (a 33 3 rfl)
 obtain ⟨i34, e34⟩ := leaf_int (a 34 3 rfl)
 obtain ⟨i35, e35, _⟩ := (a 35 32 rfl).int Tryz.underlying32
 obtain ⟨i36, e36⟩ := leaf_int (a 36 3 rfl)
 obtain ⟨i37, e37⟩ := leaf_int (a 37 3 rfl)
 refine ⟨⟨g cs 0, g cs 6, g cs 7, g cs 8, g cs 9, g cs 20, g cs 21, g cs 22, g cs 23, g cs 29, g cs 30, g cs 31, g cs 32⟩, ⟨ol, ⟨i1, i2, i3, i4, i5, l0, h0, f0, g0, i10, i11, i12, i13, i14⟩, ⟨i15, i16, i17, i18, i19, l1, h1, f1, g1, i24, i25, i26, i27, i28⟩, st, qu, at_, bl, i33, i34, i35, i36, i37⟩, ?_, ⟨os, ⟨hl0, hh0, hf0, hg0⟩, ⟨hl1, hh1, hf1, hg1⟩, hst, hqu, hat, bs⟩⟩
 simp only [boardC]
 rw [← e1, ← e2, ← e3, ← e4, ← e5, ← e10, ← e11, ← e12, ← e13, ← e14, ← e15, ← e16, ← e17, ← e18, ← e19, ← e24, ← e25, ← e26, ← e27, ← e28, ← e33, ← e34, ← e36, ← e37]
 have e35' : iV i35 = g cs 35 := e35.symm
 rw [e35']
 refine List.ext_getElem (by simp [hlen]) fun i h1 h2 => ?_
 have hi : i < 38 := by omega
 have : cs[i] = g cs i := by rw [← get_g (List.getElem?_eq_getElem h1)]
 rw [this]
 rcases i with _ | _ | _ | _ | _ | _ | _ | _ | _ | _ | _ | _ | _ | _ | _ | _ | _ | _ | _ | _ | _ | _ | _ | _ | _ | _ | _ | _ | _ | _ | _ | _ | _ | _ | _ | _ | _ | _ | i <;> first | rfl | omega
end Go.Proofs.YtieaihgbjikggaaGreat
namespace Go.Sx
open Go
theorem Cons.ghost {H H' : Heap} {O O' : Own} (h : Cons H O) (g : Ghost H O H' O') : Cons H' O' := by
 obtain ⟨w, F, hm⟩ := h
 exact ⟨w, F, (g w F hm).1⟩
theorem Cons.perm {H : Heap} {O O' : Own} (h : Cons H O) (hp : O.Perm O') : Cons H O' := h.ghost (Ghost.perm hp)
theorem Triple.ghost {P : Program} {f : FuncId} {args : List Value} {H : Heap} {O : Own} {Q Q' : Value → Heap → Own → Prop} (h : Triple P f args H O Q)
  (hq : ∀ v H' O', Heap.le H H' → Cons H' O' → Q v H' O' → ∃ H'' O'', Ghost H' O' H'' O'' ∧ Q' v H'' O'') : Triple P f args H O Q' :=
 fun w F hm => (h w F hm).mono fun _ w' ⟨v, H', O', he, q, hle, hm'⟩ =>
  let ⟨H'', O'', g, q'⟩ := hq v H' O' hle ⟨w', F, hm'⟩ q
  ⟨v, H'', O'', he, q', Heap.le_trans hle (g _ _ hm').2, (g _ _ hm').1⟩
theorem its_freeze {te : TypeId} : ∀ (l : List It) (rows : List (List Value)) (Ts : List Own) (H : Heap) (X : Own), rows.length = l.length → Ts.length = l.length →
  (∀ (i : Nat) (r : List Value) (x : It) (T : Own), rows[i]? = some r → l[i]? = some x → Ts[i]? = some T → ∃ s, r = [iV x.player, iV x.id, iV x.card, iV x.trig, s] ∧ OSl te 2 s (x.tgs.map Tg.row) T) →
  Cons H (List.flatten Ts ++ X) → ∃ H', Ghost H (List.flatten Ts ++ X) H' X ∧ Heap.le H H' ∧
   ∀ (i : Nat) (r : List Value) (x : It), rows[i]? = some r → l[i]? = some x → ∃ s, r = [iV x.player, iV x.id, iV x.card, iV x.trig, s] ∧ Sl H' 2 s (x.tgs.map Tg.row)
 | [], [], [], H, X, _, _, _, _ => ⟨H, Ghost.refl _ _, Heap.le_refl _, fun i r x h => by simp at h⟩
 | x :: l, r :: rows, T :: Ts, H, X, h1, h2, hs, hc => by
  obtain ⟨s, e, hT⟩ := hs 0 r x T rfl rfl rfl
  rw [List.flatten_cons, List.append_assoc] at hc
  obtain ⟨H1, g1, k1, l1⟩ := hT.freeze hc
  obtain ⟨H2, g2, l2, k2⟩ := its_freeze l rows Ts H1 X (by simpa using h1) (by simpa using h2) (fun i r x T a b c => hs (i + 1) r x T (by simpa using a) (by simpa using b) (by simpa using c)) (hc.ghost g1)
  refine ⟨H2, ?_, Heap.le_trans l1 l2, fun i r' x' a b => ?_⟩
  ·rw [List.flatten_cons, List.append_assoc]; exact g1.trans g2
  ·cases i with
   | zero => simp at a b; subst a; subst b; exact ⟨s, e, k1.le l2⟩
   | succ i => exact k2 i r' x' (by simpa using a) (by simpa using b)
 | [], _ :: _, _, _, _, h, _, _, _ => by simp at h
 | _ :: _, [], _, _, _, h, _, _, _ => by simp at h
 | [], [], _ :: _, _, _, _, h, _, _ => by simp at h
 | _ :: _, _ :: _, [], _, _, _, h, _, _ => by simp at h
theorem OIts.freeze {te ti : TypeId} {v : Value} {l : List It} {O1 X : Own} {H : Heap} (h : OIts te ti v l O1) (hc : Cons H (O1 ++ X)) : ∃ H', Ghost H (O1 ++ X) H' X ∧ ItsS H' v l ∧ Heap.le H H' := by
 obtain ⟨rows, A, Ts, hp, h1, h2, h3, h4⟩ := h
 have hp' : (O1 ++ X).Perm (A ++ (List.flatten Ts ++ X)) := (hp.append_right X).trans (List.Perm.of_eq (List.append_assoc _ _ _))
 obtain ⟨H1, g1, k1, l1⟩ := h1.freeze (hc.perm hp')
 obtain ⟨H2, g2, l2, k2⟩ := its_freeze l rows Ts H1 X h2 h3 h4 ((hc.perm hp').ghost g1)
 exact ⟨H2, (Ghost.perm hp').trans (g1.trans g2), ⟨rows, k1.le l2, h2, k2⟩, Heap.le_trans l1 l2⟩
theorem OwnB.freeze {t : Tys} {w : BV12} {b : Bd} {O X : Own} {H : Heap} (h : OwnB t w b O) (hc : Cons H (O ++ X)) : ∃ H', Ghost H (O ++ X) H' X ∧ BdS H' w b ∧ Heap.le H H' := by
 obtain ⟨Oo, A0, B0, C0, D0, A1, B1, C1, D1, Os, Oq, Oa, Obk, hp, h⟩ := h
 have hp' : (O ++ X).Perm (Oo ++ (A0 ++ (B0 ++ (C0 ++ (D0 ++ (A1 ++ (B1 ++ (C1 ++ (D1 ++ (Os ++ (Oq ++ (Oa ++ (Obk ++ X))))))))))))) := by
  refine (hp.append_right X).trans (List.Perm.of_eq ?_)
  simp only [List.append_assoc]
 replace hc := hc.perm hp'
 obtain ⟨H1, g1, k1, l1⟩ := h.objs.freeze hc
 replace hc := hc.ghost g1
 obtain ⟨H2, g2, k2, l2⟩ := h.l0.freeze hc
 replace hc := hc.ghost g2
 obtain ⟨H3, g3, k3, l3⟩ := h.h0.freeze hc
 replace hc := hc.ghost g3
 obtain ⟨H4, g4, k4, l4⟩ := h.f0.freeze hc
 replace hc := hc.ghost g4
 obtain ⟨H5, g5, k5, l5⟩ := h.g0.freeze hc
 replace hc := hc.ghost g5
 obtain ⟨H6, g6, k6, l6⟩ := h.l1.freeze hc
 replace hc := hc.ghost g6
 obtain ⟨H7, g7, k7, l7⟩ := h.h1.freeze hc
 replace hc := hc.ghost g7
 obtain ⟨H8, g8, k8, l8⟩ := h.f1.freeze hc
 replace hc := hc.ghost g8
 obtain ⟨H9, g9, k9, l9⟩ := h.g1.freeze hc
 replace hc := hc.ghost g9
 obtain ⟨H10, g10, k10, l10⟩ := h.stack.freeze hc
 replace hc := hc.ghost g10
 obtain ⟨H11, g11, k11, l11⟩ := h.queue.freeze hc
 replace hc := hc.ghost g11
 obtain ⟨H12, g12, k12, l12⟩ := h.att.freeze hc
 replace hc := hc.ghost g12
 obtain ⟨H13, g13, k13, l13⟩ := h.blocks.freeze hc
 have m12 := l13
 have m11 := Heap.le_trans l12 m12
 have m10 := Heap.le_trans l11 m11
 have m9 := Heap.le_trans l10 m10
 have m8 := Heap.le_trans l9 m9
 have m7 := Heap.le_trans l8 m8
 have m6 := Heap.le_trans l7 m7
 have m5 := Heap.le_trans l6 m6
 have m4 := Heap.le_trans l5 m5
 have m3 := Heap.le_trans l4 m4
 have m2 := Heap.le_trans l3 m3
 have m1 := Heap.le_trans l2 m2
 exact ⟨H13, (Ghost.perm hp').trans (g1.trans (g2.trans (g3.trans (g4.trans (g5.trans (g6.trans (g7.trans (g8.trans (g9.trans (g10.trans (g11.trans (g12.trans g13)))))))))))),
  ⟨k1.le m1, ⟨k2.le m2, k3.le m3, k4.le m4, k5.le m5⟩, ⟨k6.le m6, k7.le m7, k8.le m8, k9.le m9⟩, k10.le m10, k11.le m11, k12.le m12, k13⟩, Heap.le_trans l1 m1⟩
/-- What is handed back is frozen at once. -/
theorem Triple.frozen {P : Program} {f : FuncId} {args : List Value} {H : Heap} {t : Tys} {b : Bd} (h : Triple P f args H [] fun r _ O' => ∃ w, r = .agg (boardC w b).toArray ∧ OwnB t w b O') :
  Triple P f args H [] fun r H' O' => (∃ w, r = .agg (boardC w b).toArray ∧ BdS H' w b) ∧ O' = [] := by
 refine h.ghost ?_
 rintro v H' O' _ hc ⟨w, rfl, ho⟩
 obtain ⟨H'', g, k, _⟩ := ho.freeze (X := []) (by simpa using hc)
 exact ⟨H'', [], by simpa using g, ⟨w, rfl, k⟩, rfl⟩
end Go.Sx
namespace Go.Sx
open Go
theorem RetO.frame {P : Program} {f : FuncId} {args : List Value} {H : Heap} {O : Own} {r : Value} (h : RetO P f args H O r) (X : Own) : RetO P f args H (O ++ X) r :=
 (Triple.frame h X).mono fun _ _ _ _ ⟨O'', e, e1, e2⟩ => ⟨e1, by rw [e, e2]⟩
theorem RetO.perm {P : Program} {f : FuncId} {args : List Value} {H : Heap} {O O' : Own} {r : Value} (h : RetO P f args H O r) (hp : O.Perm O') : RetO P f args H O' r :=
 fun w F hm => (h w F (hm.perm (hp.symm.append_right F))).mono fun _ _ ⟨v, H', O1, he, ⟨q1, q2⟩, hle, hm'⟩ => ⟨v, H', O', he, ⟨q1, rfl⟩, hle, hm'.perm (by rw [q2]; exact hp.append_right F)⟩
end Go.Sx
namespace Go.Sx
open Go
theorem Sl.from {H : Heap} {size : Nat} {v : Value} {rows : List (List Value)} (h : Sl H size v rows) {i : Nat} (hi : i ≤ rows.length) : ∃ u, evalPure (.slc size true false false) [v, .int .i64 i] = some u ∧ Sl H size u (rows.drop i) := by
 obtain ⟨a, cap, rfl, h1, h2, h3⟩ := h
 have hb : slcBounds rows.length cap (some (.int .i64 (i : Int))) none none = some (i, rows.length, cap) := by
  simp [slcBounds, boundOr, boundHi, boundI, asI, hi]
 have hm : (rows.drop i).length = rows.length - i := List.length_drop
 refine ⟨.slice (if cap = i then a else a.map (·.add (i * size))) (rows.length - i) (cap - i), ?_, _, cap - i, by rw [hm], by rw [hm]; omega, by omega, fun hne => ?_⟩
 ·simp only [evalPure, takeArgs, evalSlc, hb, Option.map_some]
 ·have hne2 : rows ≠ [] := by rintro rfl; simp at hne
  have hlt : i < rows.length := by
   rcases Nat.lt_or_ge i rows.length with h | h
   ·exact h
   ·rw [List.drop_of_length_le h] at hne; exact absurd rfl hne
  obtain ⟨ad, rfl, hA⟩ := h3 hne2
  refine ⟨ad.add (i * size), ?_, fun j r hr => ?_⟩
  ·rw [if_neg (by omega)]; rfl
  ·rw [List.getElem?_drop] at hr
   have := hA (i + j) r hr
   rw [add_add, ← Nat.add_mul]; exact this
end Go.Sx
namespace Go.Sx
open Go
/-- The kinds of frozen cards. -/
def KindS (H : Heap) (v : Value) (ks : List Int) : Prop := ∃ rows, Sl H 14 v rows ∧ rows.length = ks.length ∧ ∀ (i : Nat) (r : List Value) (k : Int), rows[i]? = some r → ks[i]? = some k → g r 1 = iV k
theorem KindS.le {H H' : Heap} {v : Value} {ks : List Int} (h : KindS H v ks) (hl : Heap.le H H') : KindS H' v ks := let ⟨rows, h1, h2, h3⟩ := h; ⟨rows, h1.le hl, h2, h3⟩
theorem KindS.one {H : Heap} {v : Value} {ks : List Int} (h : KindS H v ks) : v.oneCell' = true := let ⟨_, h1, _⟩ := h; h1.one
end Go.Sx
namespace Go.Sx
open Go
end Go.Sx
namespace Go.Sx
open Go
set_option maxRecDepth 100000
set_option maxHeartbeats 1000000
end Go.Sx
namespace Go.Sx
open Go
set_option maxRecDepth 100000
set_option maxHeartbeats 1000000
end Go.Sx
namespace Go.Sx
open Go
set_option maxRecDepth 100000
set_option maxHeartbeats 1000000
end Go.Sx
namespace Go.Sx
open Go
/-- What is asked of a card: its kind, its effects' targets, how many effects its triggers have. -/
structure Cd where
 kind : Int
 tg : List Int
 tr : List Nat
def EffsS (H : Heap) (v : Value) (tg : List Int) : Prop := ∃ rows, Sl H 5 v rows ∧ rows.length = tg.length ∧ ∀ (i : Nat) (r : List Value) (t : Int), rows[i]? = some r → tg[i]? = some t → g r 1 = iV t
def TrigR (H : Heap) (r : List Value) (n : Nat) : Prop := ∃ erows, Sl H 5 (g r 1) erows ∧ erows.length = n
def TrigsS (H : Heap) (v : Value) (tr : List Nat) : Prop := ∃ rows, Sl H 2 v rows ∧ rows.length = tr.length ∧ ∀ (i : Nat) (r : List Value) (n : Nat), rows[i]? = some r → tr[i]? = some n → TrigR H r n
structure CdR (H : Heap) (r : List Value) (c : Cd) : Prop where
 kind : g r 1 = iV c.kind
 eff : EffsS H (g r 11) c.tg
 trig : TrigsS H (g r 12) c.tr
def CardsS (H : Heap) (v : Value) (cs : List Cd) : Prop := ∃ rows, Sl H 14 v rows ∧ rows.length = cs.length ∧ ∀ (i : Nat) (r : List Value) (c : Cd), rows[i]? = some r → cs[i]? = some c → CdR H r c
theorem EffsS.le {H H' : Heap} {v : Value} {l : List Int} (h : EffsS H v l) (hl : Heap.le H H') : EffsS H' v l := let ⟨rows, h1, h2, h3⟩ := h; ⟨rows, h1.le hl, h2, h3⟩
theorem TrigR.le {H H' : Heap} {r : List Value} {n : Nat} (h : TrigR H r n) (hl : Heap.le H H') : TrigR H' r n := let ⟨rows, h1, h2⟩ := h; ⟨rows, h1.le hl, h2⟩
theorem TrigsS.le {H H' : Heap} {v : Value} {l : List Nat} (h : TrigsS H v l) (hl : Heap.le H H') : TrigsS H' v l := let ⟨rows, h1, h2, h3⟩ := h; ⟨rows, h1.le hl, h2, fun i r n a b => (h3 i r n a b).le hl⟩
theorem CdR.le {H H' : Heap} {r : List Value} {c : Cd} (h : CdR H r c) (hl : Heap.le H H') : CdR H' r c := ⟨h.kind, h.eff.le hl, h.trig.le hl⟩
theorem CardsS.le {H H' : Heap} {v : Value} {cs : List Cd} (h : CardsS H v cs) (hl : Heap.le H H') : CardsS H' v cs := let ⟨rows, h1, h2, h3⟩ := h; ⟨rows, h1.le hl, h2, fun i r c a b => (h3 i r c a b).le hl⟩
theorem CardsS.one {H : Heap} {v : Value} {cs : List Cd} (h : CardsS H v cs) : v.oneCell' = true := let ⟨_, h1, _⟩ := h; h1.one
theorem CardsS.len {H : Heap} {v : Value} {cs : List Cd} (h : CardsS H v cs) : evalPure .len [v] = some (iV cs.length) := by
 obtain ⟨rows, h1, h2, _⟩ := h
 have := h1.len; rwa [h2] at this
theorem EffsS.one {H : Heap} {v : Value} {l : List Int} (h : EffsS H v l) : v.oneCell' = true := let ⟨_, h1, _⟩ := h; h1.one
theorem EffsS.len {H : Heap} {v : Value} {l : List Int} (h : EffsS H v l) : evalPure .len [v] = some (iV l.length) := by
 obtain ⟨rows, h1, h2, _⟩ := h
 have := h1.len; rwa [h2] at this
theorem TrigsS.one {H : Heap} {v : Value} {l : List Nat} (h : TrigsS H v l) : v.oneCell' = true := let ⟨_, h1, _⟩ := h; h1.one
theorem TrigsS.len {H : Heap} {v : Value} {l : List Nat} (h : TrigsS H v l) : evalPure .len [v] = some (iV l.length) := by
 obtain ⟨rows, h1, h2, _⟩ := h
 have := h1.len; rwa [h2] at this
theorem EffsS.nil (H : Heap) : EffsS H (.slice none 0 0) [] := ⟨[], Sl.nil H 5, rfl, fun i r t h => by simp at h⟩
theorem TrigsS.nil (H : Heap) : TrigsS H (.slice none 0 0) [] := ⟨[], Sl.nil H 2, rfl, fun i r t h => by simp at h⟩
/-- Light cards. -/
def cdLight (c : Cd) : Bool := !(decide ((c.tg.length : Int) > 5) || decide ((c.tr.length : Int) > 3)) && c.tr.all fun n => !decide ((n : Int) > 5)
def lightB (cs : List Cd) : Bool := (cs.take 13).all cdLight && decide ((cs.length : Int) ≤ 12)
end Go.Sx
