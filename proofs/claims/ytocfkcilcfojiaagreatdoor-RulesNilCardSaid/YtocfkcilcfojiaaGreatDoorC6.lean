/- Everything is in one place: the program's check. -/
import Derived.Test.YtocfkcilcfojiaaGreatDoorM
import Derived.Test.YtocfkcilcfojiaaGreatDoorFw3
import Derived.Test.YtocfkcilcfojiaaGreatDoorFw3
namespace Go.Proofs.YtocfkcilcfojiaaGreatDoor
open Go Go.Sx
set_option maxRecDepth 100000
set_option maxHeartbeats 1000000
theorem fU {P : Program} {v : Value} {H : Heap} {O X Ox : Go.Sx.Own} {Q : Value → Heap → Go.Sx.Own → Prop} (hO : O.Perm (X ++ Ox)) (h : Q v H Ox) : (Tree.ret v []).den P Q H O := by
 intro _
 exact ⟨H, Ox, (Ghost.perm hO).trans (Ghost.sub (List.sublist_append_right X Ox)), h⟩
theorem wJ : ∀ w, (zeroValue dz).run PP w = .ok (iV 0) w := by
 intro w
 have : (PP.info? dz).bind (·.zero) = some (iV 0) := by kernel_rfl
 simp only [Option.bind_eq_some_iff] at this
 obtain ⟨i, hi, hz⟩ := this
 simp [zeroValue, typeInfo, hi, hz]
theorem um : PP.underlying aF = some (.map dz dz) := by kernel_rfl
theorem uv : PP.underlying dz = some (.int .i64) := by kernel_rfl
theorem nM {m : o8} {mv : Value} {Om : Go.Sx.Own} (hm : OMap .i64 mv m Om) (r1 : Nat) (id player : Int) (H : Heap) (h1 : ((aE m id).getD (iV 0)).oneCell' = true) :
  Triple PP dw [iV id, iV player, .pointer (some ⟨r1, 0, none⟩)] H ((r1, .cells #[mv] aF (0, 0)) :: Om) fun v _ O' => v = .bool (aE m id).isNone ∧ ∃ Om', O' = (r1, .cells #[mv] aF (0, 0)) :: Om' ∧ OMap .i64 mv (jF m id (iV player)) Om' := by
 refine iR (vs := [iV id, iV player, .pointer (some ⟨r1, 0, none⟩)]) (by kernel_rfl) ⟨rfl, rfl, rfl, trivial⟩ ?_
 simp only [fK]
 have hr : ∀ (H' : Heap) (X : Go.Sx.Own), Reads H' ((r1, .cells #[mv] aF (0, 0)) :: X) (.pointer (some ⟨r1, 0, none⟩)) 1 [mv] := fun H' X => .inr ⟨⟨r1, 0, none⟩, #[mv], aF, rfl, rfl, by simp, rfl, rfl⟩
 refine bR (hr _ _) rfl ⟨hm.one, trivial⟩ ?_
 refine iF um uv wJ hm (fun p hp => List.mem_cons_of_mem _ hp) id h1 ?_
 refine bR (hr _ _) rfl ⟨hm.one, trivial⟩ ?_
 refine dW um uv hm (O2 := [(r1, .cells #[mv] aF (0, 0))]) List.perm_append_comm id (iV player) ?_
 intro r Om' hm' _
 refine ab _ (aD _) ?_
 intro _
 refine ⟨H, (r1, .cells #[mv] aF (0, 0)) :: Om', Ghost.perm (show (Om' ++ [(r1, Obj.cells #[mv] aF (0, 0))]).Perm ([(r1, Obj.cells #[mv] aF (0, 0))] ++ Om') from List.perm_append_comm), ?_, Om', rfl, hm'⟩
 cases aE m id <;> rfl
theorem uG {t ty : TypeId} {m : o8} {mv : Value} {Om O : Go.Sx.Own} {H : Heap} {K : List Value → List (List Value) → Heap → Go.Sx.Own → Prop} (hm : OMap .i64 mv m Om) (hsub : ∀ p ∈ Om, p ∈ O) (hk : K [iV m.length] [] H O) (ht : (match PP.underlying t with | some (.map _ _) => true | _ => false) = true := by kernel_rfl) :
  dZ (fun H1 O1 R => bJ PP ((PrimOp.bi .len #[t] ty).sem [mv]) H1 O1 R) false [] [] .one K H O := by
 refine qQ (v := iV m.length) ?_ rfl ⟨rfl, trivial⟩ hk
 intro w F hmo
 obtain ⟨r, es, clock, rfl, rfl, he⟩ := hm
 have hrow := (hmo.own (r, .map es clock) (List.mem_append_left _ (hsub _ (by simp)))).1
 have hg : (getObj r).run PP w = .ok (.map es clock) w := by simp [getObj, Sem.run, hrow]
 have hlen : es.size = m.length := by have := congrArg List.length he; simpa using this
 cases hu : PP.underlying t with
 | none => rw [hu] at ht; cases ht
 | some d =>
  cases d with
  | map kt et =>
   have : (Builtin.len_ #[t] ty #[.map (some r)]).run PP w = .ok (iV m.length) w := by
    simp only [Builtin.len_]
    simp [run_underlying hu, hg, hlen, goInt]
   simp only [PrimOp.sem, builtin, Sem.run_bind]
   rw [this]; rfl
  | _ => rw [hu] at ht; cases ht
theorem fW {lab key : Nat} {lv mv n0 : Value} {l : List Int} {pl : Int} {r1 : Nat} {H : Heap} {O Om Ox : Go.Sx.Own} {pre : List (Int × Int)} {Q : Value → Heap → Go.Sx.Own → Prop} {rest : List Value → Tree}
  {eqs : (List Value → Heap → Go.Sx.Own → Prop) → List Value → Value → List Value → List Value → List (List Value) → Value → Value → List (List Value × List Value)}
  (hl : RSl H Ox 1 lv (ej l)) (hn : n0 = iV l.length) (hm : OMap .i64 mv (b7 pre) Om) (hO : O.Perm (Om ++ Ox)) (hnd : (pre.map (·.1)).Nodup)
  (heq : ∀ C a b c d e f g, Eqs (eqs C a b c d e f g))
  (bad : ∀ H', Heap.le H H' → ¬ ((pre ++ l.map fun i => (i, pl)).map (·.1)).Nodup → Q (.bool false) H' Ox)
  (good : ∀ H' O' Om', Heap.le H H' → ((pre ++ l.map fun i => (i, pl)).map (·.1)).Nodup → OMap .i64 mv (b7 (pre ++ l.map fun i => (i, pl))) Om' → O'.Perm (Om' ++ Ox) → (rest [iV l.length, mv]).den PP Q H' O') :
  (Tree.loop lab key [iV 0, mv] fun C l3 =>
   .pure [] (.bin .lss .int) [(g l3 0), n0] fun v4 =>
   .br v4 (
    .pure [] (.idx 1) [lv, (g l3 0)] fun v5 =>
    .load [] v5 1 fun l6 =>
    .call false dw [(g l6 0), iV pl, (.pointer (some ⟨r1, 0, none⟩))] [] [⟨r1, aF, [(g l3 1)]⟩] .one fun l7 c7 =>
    .pure [] .not [(g l7 0)] fun v8 =>
    .br v8 (
     .ret (.bool false) []) (
     .pure [] (.bin .add .int) [(g l3 0), iV 1] fun v9 =>
     .cont lab C [v9, (g (c7.getD 0 []) 0)] (eqs C l3 v5 l6 l7 c7 v8 v9))) (rest l3)).den PP Q H O := by
 subst hn
 refine nI l.length (fun i xs H' O' => xs = [mv] ∧ Heap.le H H' ∧ ∃ Om', O'.Perm (Om' ++ Ox) ∧ OMap .i64 mv (b7 (pre ++ (l.take i).map fun i => (i, pl))) Om' ∧ ((pre ++ (l.take i).map fun i => (i, pl)).map (·.1)).Nodup)
  ⟨rfl, Heap.le_refl H, Om, hO, by simpa using hm, by simpa using hnd⟩ ?_
 rintro i xs H' O' hi - - - ⟨rfl, hle, Om', hO', hm', hnd'⟩
 refine ab _ (dl _ _) (aw (fun hb => ?_) (fun hb => ?_))
 ·have hlt : i < l.length := by simpa using hb
  obtain ⟨a, h1, h2, _, h3, h4⟩ := ((hl.le hle).own (fun p hp => hO'.mem_iff.2 (List.mem_append_right Om' hp))).idx .i64 i [iV l[i]] (by simp [ej, hlt])
  refine ab _ h1 (bR h2 h3 h4 ?_)
  have hone : ((aE (b7 (pre ++ (l.take i).map fun i => (i, pl))) l[i]).getD (iV 0)).oneCell' = true := by
   rw [be]; cases cF (pre ++ (l.take i).map fun i => (i, pl)) l[i] <;> rfl
  have hc := nM hm' r1 l[i] pl H' hone
  intro _
  refine ⟨H', Om', Ox, _, Ghost.perm hO', hc, ?_⟩
  rintro v H2 O2 ⟨rfl, Om2, rfl, hm2⟩ hle2
  refine ⟨[_], [[mv]], Om2, rfl, ⟨rfl, trivial⟩, ⟨rfl, ⟨hm2.one, trivial⟩, trivial⟩, rfl, ?_⟩
  refine ab _ (aD _) (aw (fun hb => ?_) (fun hb => ?_))
  ·have hin : l[i] ∈ (pre ++ (l.take i).map fun i => (i, pl)).map (·.1) := by
    rw [be] at hb
    simp only [Bool.not_eq_true', Option.isNone_map] at hb
    rcases Classical.em (l[i] ∈ (pre ++ (l.take i).map fun i => (i, pl)).map (·.1)) with h | h
    ·exact h
    ·rw [dL.2 h] at hb; cases hb
   refine fU (List.Perm.refl _) (bad H2 (Heap.le_trans hle hle2) ?_)
   intro hnd2
   have e : pre ++ l.map (fun i => (i, pl)) = (pre ++ (l.take i).map fun i => (i, pl)) ++ ((l[i], pl) :: (l.drop (i + 1)).map fun i => (i, pl)) := by
    rw [List.append_assoc, ← List.map_cons (f := fun i => (i, pl)), ← List.drop_eq_getElem_cons hlt, ← List.map_append, List.take_append_drop]
   rw [e, List.map_append, List.map_cons] at hnd2
   exact (List.nodup_append.1 hnd2).2.2 _ hin _ (List.mem_cons_self) rfl
  ·have hnin : l[i] ∉ (pre ++ (l.take i).map fun i => (i, pl)).map (·.1) := by
    rw [be] at hb
    simp only [Bool.not_eq_false', Option.isNone_map, Option.isNone_iff_eq_none] at hb
    exact dL.1 hb
   have e : pre ++ (l.take (i + 1)).map (fun i => (i, pl)) = (pre ++ (l.take i).map fun i => (i, pl)) ++ [(l[i], pl)] := by
    rw [List.take_add_one, List.getElem?_eq_getElem hlt, List.map_append, List.append_assoc]; rfl
   refine ab _ (du (by have := hl.lenB; simp [ej] at this; omega)) (iC (heq _ _ _ _ _ _ _ _) hlt ⟨rfl, Heap.le_trans hle hle2, Om2, List.Perm.refl _, ?_, ?_⟩)
   ·rw [e, ← nT hnin]; exact hm2
   ·rw [e, List.map_append, List.nodup_append]
    refine ⟨hnd', by simp, ?_⟩
    intro x hx y hy
    simp only [List.map_cons, List.map_nil, List.mem_singleton] at hy
    subst hy
    rintro rfl
    exact hnin hx
 ·have hie : i = l.length := by have : ¬ ((i : Int) < (l.length : Int)) := (by simpa using hb); omega
  subst hie
  rw [List.take_length] at hm' hnd'
  exact good H' O' Om' hle hnd' hm' hO'
theorem uH (r : Nat) (o : Nat) (H : Heap) (O : Go.Sx.Own) : RetO PP jC [.pointer (some ⟨r, o, none⟩)] H O (.agg #[.pointer (some ⟨r, o + 5, none⟩), .pointer (some ⟨r, o + 6, none⟩), .pointer (some ⟨r, o + 7, none⟩), .pointer (some ⟨r, o + 8, none⟩)]) := by
 refine lw (vs := [.pointer (some ⟨r, o, none⟩)]) (by kernel_rfl) ⟨rfl, trivial⟩ ?_
 simp only [jx]
 refine bc fun r0 => ez rfl (ez rfl (ez rfl (ez rfl (ez rfl (ez rfl (ez rfl (ez rfl (af (af (an ⟨?_, rfl⟩))))))))))
 simp only [g, List.getD_eq_getElem?_getD, List.getElem?_cons_zero, Option.getD_some, dj, aT]
theorem we {H : Heap} {O : Go.Sx.Own} {v : qD} {b : Bd} (h : BdR H O v b) : RetO PP ie [.agg (gv v b).toArray] H O (.bool (eF cC b)) := by
 refine kD (vs := gv v b) (by kernel_rfl) (iI h) ?_
 simp only [hU]
 have len1 : ∀ {H' : Heap} {O' : Go.Sx.Own} {w : Value} {l : List Int}, RSl H' O' 1 w (ej l) → ae .len [w] = some (iV l.length) := fun h => by have := h.len; rwa [ej, List.length_map] at this
 have failB : ∀ {l : List (Int × Int)}, (∃ r, aP b = l ++ r) → ¬ (l.map (·.1)).Nodup → (Value.bool false : Value) = .bool (eF cC b) := by
  rintro l ⟨r, hr⟩ hn
  have : ¬ ((aP b).map (·.1)).Nodup := by
   rw [hr, List.map_append]
   exact fun h => hn (List.nodup_append.1 h).1
  simp only [eF, this, decide_false, Bool.false_and]
 refine bc fun r0 => mE (kd := .i64) fun mv O1 hm => bc fun r1 => af (al (uH r0 1 H _) rfl ⟨rfl, rfl, rfl, rfl, trivial⟩ fun H1 l1 => ?_)
 refine aj (aj (aj (aj (af (ab _ (len1 h.s0.lib) ?_)))))
 replace h := h.le l1
 refine fW (mv := mv) (pre := []) (Ox := O) h.s0.lib rfl hm (List.Perm.refl _) (by simp) (by intros; simp [Eqs]) (fun H' _ hn => ⟨failB (l := [] ++ b.s0.lib.map fun i => (i, 0)) ⟨_, by simp [aP, ef]; rfl⟩ hn, rfl⟩) ?_
 intro H2 O2 Om2 l2 nd2 hm2 hO2
 replace h := h.le l2
 refine af (ab _ (len1 h.s0.hand) ?_)
 refine fW (mv := mv) (pre := [] ++ b.s0.lib.map fun i => (i, 0)) (Ox := O) h.s0.hand rfl hm2 hO2 nd2 (by intros; simp [Eqs]) (fun H' _ hn => ⟨failB ⟨_, by simp [aP, ef]; rfl⟩ hn, rfl⟩) ?_
 intro H3 O3 Om3 l3 nd3 hm3 hO3
 replace h := h.le l3
 refine af (ab _ (len1 h.s0.field) ?_)
 refine fW (mv := mv) (Ox := O) h.s0.field rfl hm3 hO3 nd3 (by intros; simp [Eqs]) (fun H' _ hn => ⟨failB ⟨_, by simp [aP, ef]; rfl⟩ hn, rfl⟩) ?_
 intro H4 O4 Om4 l4 nd4 hm4 hO4
 replace h := h.le l4
 refine af (ab _ (len1 h.s0.grave) ?_)
 refine fW (mv := mv) (Ox := O) h.s0.grave rfl hm4 hO4 nd4 (by intros; simp [Eqs]) (fun H' _ hn => ⟨failB ⟨_, by simp [aP, ef]; rfl⟩ hn, rfl⟩) ?_
 intro H5 O5 Om5 l5 nd5 hm5 hO5
 replace h := h.le l5
 refine al (uH r0 15 H5 _) rfl ⟨rfl, rfl, rfl, rfl, trivial⟩ fun H6 l6 => ?_
 replace h := h.le l6
 refine aj (aj (aj (aj (af (ab _ (len1 h.s1.lib) ?_)))))
 refine fW (mv := mv) (Ox := O) h.s1.lib rfl hm5 hO5 nd5 (by intros; simp [Eqs]) (fun H' _ hn => ⟨failB ⟨_, by simp [aP, ef]; rfl⟩ hn, rfl⟩) ?_
 intro H7 O7 Om7 l7 nd7 hm7 hO7
 replace h := h.le l7
 refine af (ab _ (len1 h.s1.hand) ?_)
 refine fW (mv := mv) (Ox := O) h.s1.hand rfl hm7 hO7 nd7 (by intros; simp [Eqs]) (fun H' _ hn => ⟨failB ⟨_, by simp [aP, ef]; rfl⟩ hn, rfl⟩) ?_
 intro H8 O8 Om8 l8 nd8 hm8 hO8
 replace h := h.le l8
 refine af (ab _ (len1 h.s1.field) ?_)
 refine fW (mv := mv) (Ox := O) h.s1.field rfl hm8 hO8 nd8 (by intros; simp [Eqs]) (fun H' _ hn => ⟨failB ⟨_, by simp [aP, ef]; rfl⟩ hn, rfl⟩) ?_
 intro H9 O9 Om9 l9 nd9 hm9 hO9
 replace h := h.le l9
 refine af (ab _ (len1 h.s1.grave) ?_)
 refine fW (mv := mv) (Ox := O) h.s1.grave rfl hm9 hO9 nd9 (by intros; simp [Eqs]) (fun H' _ hn => ⟨failB ⟨_, by simp [aP, ef]; rfl⟩ hn, rfl⟩) ?_
 intro H10 O10 Om10 l10 nd10 hm10 hO10
 replace h := h.le l10
 have hpre : ∃ pre, pre = ef b.s0 0 ++ ef b.s1 1 := ⟨_, rfl⟩
 obtain ⟨pre, hpe⟩ := hpre
 have e10 : ([] ++ b.s0.lib.map (fun i => (i, (0 : Int))) ++ b.s0.hand.map (fun i => (i, 0)) ++ b.s0.field.map (fun i => (i, 0)) ++ b.s0.grave.map (fun i => (i, 0)) ++ b.s1.lib.map (fun i => (i, 1)) ++ b.s1.hand.map (fun i => (i, 1)) ++ b.s1.field.map (fun i => (i, 1)) ++ b.s1.grave.map (fun i => (i, 1))) = pre := by
  rw [hpe]; simp [ef]
 rw [e10] at nd10 hm10
 have hpb : aP b = pre ++ dk b.stack := by rw [hpe]; simp [aP]
 refine mE (kd := .i64) fun cv Oc0 hc0 => af (ab _ (ItsR.len h.stack) ?_)
 have stk := h.stack
 obtain ⟨rows, hrs, hrl, hit⟩ := stk
 refine nI b.stack.length (fun i xs H' O' => xs = [mv] ∧ Heap.le H10 H' ∧ ∃ Om Oc, O'.Perm (Om ++ (Oc ++ O)) ∧ OMap .i64 mv (b7 (pre ++ dk (b.stack.take i))) Om ∧ OMap .i64 cv (b7 (aY (b.stack.take i))) Oc ∧ ((pre ++ dk (b.stack.take i)).map (·.1)).Nodup)
  ⟨rfl, Heap.le_refl _, Om10, Oc0, ?_, by simpa [dk, dV] using hm10, by simpa [aY, dV, b7] using hc0, by simpa [dk, dV] using nd10⟩ ?_
 ·exact ((hO10.append_left Oc0).trans (by rw [← List.append_assoc, ← List.append_assoc]; exact List.perm_append_comm.append_right O))
 rintro i xs H11 O11 hi - - - ⟨rfl, l11, Om, Oc, hO, hm, hc, hnd⟩
 refine ab _ (dl _ _) (aw (fun hb => ?_) (fun hb => ?_))
 ·have hlt : i < b.stack.length := by simpa using hb
  have hsub : ∀ p ∈ O, p ∈ O11 := fun p hp => hO.mem_iff.2 (by simp [hp])
  obtain ⟨a, h1, h2, _, h3, h4⟩ := ((hrs.le l11).own hsub).idx .i64 i rows[i] (by simp [hrl, hlt])
  obtain ⟨s, hrow, _⟩ := hit i rows[i] b.stack[i] (by simp [hrl, hlt]) (by simp [hlt])
  rw [hrow] at h2 h3 h4
  have etk : b.stack.take (i + 1) = b.stack.take i ++ [b.stack[i]] := by rw [List.take_add_one, List.getElem?_eq_getElem hlt]; rfl
  refine ab _ h1 (bR h2 h3 h4 (bc fun r2 => af (af (ab _ (dl _ _) (aw (fun hb => ?_) (fun hb => ?_))))))
  ·
   have htr : b.stack[i].trig < 0 := by simpa using hb
   have eow : dk (b.stack.take (i + 1)) = dk (b.stack.take i) ++ [(b.stack[i].id, b.stack[i].player)] := by
    rw [etk, fX, t9 htr]
   have eca : aY (b.stack.take (i + 1)) = aY (b.stack.take i) ++ [(b.stack[i].id, b.stack[i].card)] := by
    rw [etk, jr, s5 htr]
   have hone : ((aE (b7 (pre ++ dk (b.stack.take i))) b.stack[i].id).getD (iV 0)).oneCell' = true := by
    rw [be]; cases cF (pre ++ dk (b.stack.take i)) b.stack[i].id <;> rfl
   refine af (af ?_)
   have hcall := nM hm r1 b.stack[i].id b.stack[i].player H11 hone
   intro _
   refine ⟨H11, Om, Oc ++ O, _, Ghost.perm hO, hcall, ?_⟩
   rintro w H12 O12 ⟨rfl, Om2, rfl, hm2⟩ l12
   refine ⟨[_], [[mv]], Om2, rfl, ⟨rfl, trivial⟩, ⟨rfl, ⟨hm2.one, trivial⟩, trivial⟩, rfl, ?_⟩
   refine ab _ (aD _) (aw (fun hb => ?_) (fun hb => af (af ?_)))
   ·have hin : b.stack[i].id ∈ (pre ++ dk (b.stack.take i)).map (·.1) := by
     rw [be] at hb
     simp only [Bool.not_eq_true', Option.isNone_map] at hb
     rcases Classical.em (b.stack[i].id ∈ (pre ++ dk (b.stack.take i)).map (·.1)) with h | h
     ·exact h
     ·rw [dL.2 h] at hb; cases hb
    refine fU (X := Om2 ++ Oc) (by rw [List.append_assoc]) ⟨failB (l := pre ++ dk (b.stack.take (i + 1))) ⟨dk (b.stack.drop (i + 1)), ?_⟩ ?_, rfl⟩
    ·rw [hpb, List.append_assoc, ← fX, List.take_append_drop]
    ·rw [eow, ← List.append_assoc, List.map_append]
     intro hn
     exact (List.nodup_append.1 hn).2.2 _ hin _ (by simp) rfl
   ·have hnin : b.stack[i].id ∉ (pre ++ dk (b.stack.take i)).map (·.1) := by
     rw [be] at hb
     simp only [Bool.not_eq_false', Option.isNone_map, Option.isNone_iff_eq_none] at hb
     exact dL.1 hb
    have hninc : b.stack[i].id ∉ (aY (b.stack.take i)).map (·.1) := by
     intro hin
     refine hnin ?_
     rw [List.map_append]
     refine List.mem_append_right _ ?_
     simpa [aY, dk] using hin
    refine dW um uv hc (O2 := Om2 ++ O) ?_ b.stack[i].id (iV b.stack[i].card) ?_
    ·rw [← List.append_assoc, ← List.append_assoc]
     exact List.perm_append_comm.append_right O
    intro w2 Oc2 hc2 _
    refine ab _ (du (by have := hrs.lenB; omega)) (iC (by simp [Eqs]) hlt ⟨rfl, Heap.le_trans l11 l12, Om2, Oc2, ?_, ?_, ?_, ?_⟩)
    ·rw [← List.append_assoc, ← List.append_assoc]
     exact List.perm_append_comm.append_right O
    ·rw [eow, ← List.append_assoc, ← nT hnin]; exact hm2
    ·rw [eca, ← nT hninc]; exact hc2
    ·rw [eow, ← List.append_assoc, List.map_append, List.nodup_append]
     refine ⟨hnd, by simp, ?_⟩
     intro x hx y hy
     simp only [List.map_cons, List.map_nil, List.mem_singleton] at hy
     subst hy
     rintro rfl
     exact hnin hx
  ·have htr : ¬ b.stack[i].trig < 0 := by simpa using hb
   have eow : dk (b.stack.take (i + 1)) = dk (b.stack.take i) := by
    rw [etk, fX, sK htr, List.append_nil]
   have eca : aY (b.stack.take (i + 1)) = aY (b.stack.take i) := by
    rw [etk, jr, rf htr, List.append_nil]
   refine ab _ (du (by have := hrs.lenB; omega)) (iC (by simp [Eqs]) hlt ⟨rfl, l11, Om, Oc, hO, ?_, ?_, ?_⟩)
   ·rw [eow]; exact hm
   ·rw [eca]; exact hc
   ·rw [eow]; exact hnd
 ·have hie : i = b.stack.length := by
   have : ¬ ((i : Int) < (b.stack.length : Int)) := by simpa using hb
   omega
  subst hie
  rw [List.take_length] at hm hc hnd
  rw [← hpb] at hm hnd
  replace h := h.le l11
  have lo := h.objs.len
  rw [List.length_map] at lo
  have hsub : ∀ p ∈ O, p ∈ O11 := fun p hp => hO.mem_iff.2 (by simp [hp])
  have hsubm : ∀ p ∈ Om, p ∈ O11 := fun p hp => hO.mem_iff.2 (by simp [hp])
  have hsubc : ∀ p ∈ Oc, p ∈ O11 := fun p hp => hO.mem_iff.2 (by simp [hp])
  have hpl : eF cC b = (fZ cC (aP b) (aY b.stack) none b.objs && decide ((aP b).length = b.objs.length)) := by
   simp only [eF, hnd, decide_true, Bool.true_and]
  refine af (ab _ lo ?_)
  refine cL b.objs.length (fun i H' O' => O' = O11 ∧ Heap.le H11 H' ∧ fZ cC (aP b) (aY b.stack) none b.objs = fZ cC (aP b) (aY b.stack) (iU b.objs i) (b.objs.drop i)) ⟨rfl, Heap.le_refl _, by simp [iU]⟩ ?_
  rintro i H12 O12 hi - ⟨rfl, l12, hor⟩
  refine ab _ (dl _ _) (aw (fun hb => ?_) (fun hb => ?_))
  ·have hlt : i < b.objs.length := by simpa using hb
   obtain ⟨a, h1, h2, _, h3, h4⟩ := ((h.objs.le l12).own hsub).idx .i64 i (Ob.row b.objs[i]) (by simp [hlt])
   refine ab _ h1 (bR h2 h3 h4 (bc fun r3 => af (af (af ?_))))
   have hone : ((aE (b7 (aP b)) b.objs[i].id).getD (iV 0)).oneCell' = true := by
    rw [be]; cases cF (aP b) b.objs[i].id <;> rfl
   have honec : ((aE (b7 (aY b.stack)) b.objs[i].id).getD (iV 0)).oneCell' = true := by
    rw [be]; cases cF (aY b.stack) b.objs[i].id <;> rfl
   refine iF um uv wJ hm hsubm _ hone (af (iF um uv wJ hc hsubc _ honec (af ?_)))
   have g1 : (aE (b7 (aP b)) b.objs[i].id).getD (iV 0) = iV ((cF (aP b) b.objs[i].id).getD 0) := by rw [be]; cases cF (aP b) b.objs[i].id <;> rfl
   have g2 : (aE (b7 (aY b.stack)) b.objs[i].id).getD (iV 0) = iV ((cF (aY b.stack) b.objs[i].id).getD 0) := by rw [be]; cases cF (aY b.stack) b.objs[i].id <;> rfl
   have g3 : (aE (b7 (aP b)) b.objs[i].id).isSome = !(cF (aP b) b.objs[i].id).isNone := by rw [be]; cases cF (aP b) b.objs[i].id <;> rfl
   have g4 : (aE (b7 (aY b.stack)) b.objs[i].id).isSome = (cF (aY b.stack) b.objs[i].id).isSome := by rw [be]; cases cF (aY b.stack) b.objs[i].id <;> rfl
   rw [g1, g2, g3, g4]
   refine al (ni b.objs[i] H12 O12) rfl ⟨rfl, trivial⟩ fun H13 l13 => ?_
   have l13' := Heap.le_trans l12 l13
   have hp : ∃ (pv : Value) (x : Int), pv.oneCell' = true ∧ (0 < i → ae (.idx 12) [v.o, iV ((i : Int) - 1)] = some pv ∧ qd pv = true ∧ Reads H13 O12 pv 1 [iV x]) ∧ lJ (iU b.objs i) b.objs[i].id = (decide ((i : Int) > 0) && decide (x ≥ b.objs[i].id)) := by
    rcases Nat.eq_zero_or_pos i with rfl | hpos
    ·exact ⟨iV 0, 0, rfl, fun h => absurd h (Nat.lt_irrefl 0), by simp [iU, lJ]⟩
    ·obtain ⟨j, rfl⟩ : ∃ j, i = j + 1 := ⟨i - 1, by omega⟩
     have hj : j < b.objs.length := by omega
     obtain ⟨a, k1, k2, k3, _⟩ := ((h.objs.le l13').own hsub).idx .i64 j (Ob.row b.objs[j]) (by simp [hj])
     refine ⟨.pointer (some a), b.objs[j].id, rfl, fun _ => ⟨?_, rfl, ?_⟩, ?_⟩
     ·have e : ((j + 1 : Nat) : Int) - 1 = (j : Int) := by omega
      rw [e]; exact k1
     ·have := k3 0 1 (by omega)
      have e : dj (.pointer (some a)) 0 = .pointer (some a) := by simp [dj, Addr.add]
      rwa [e] at this
     ·rw [pC hj]
      have : ((j + 1 : Nat) : Int) > 0 := by omega
      simp only [lJ, this, decide_true, Bool.true_and]
   obtain ⟨pv, x, hpone, hpv, hprev⟩ := hp
   have hiB : (i : Int) + 1 < 9223372036854775808 := by have := h.objs.lenB; simp at this; omega
   have hsub1 : ae (.bin .sub .int) [iV i, iV 1] = some (iV ((i : Int) - 1)) := by
    simp only [ae, bW, bH, if_true]
    rw [nR (by omega) (by omega)]
   have hon : ∀ {u : Bool}, On [((.bool (decide ((i : Int) > 0)) : Value), true), (.bool u, false)] → 0 < i := fun h => by
    have := h.1
    simp at this
    omega
   refine ab _ (aD _) (aj (ab _ (jj _ _) ?_))
   repeat (first | refine af ?_ | refine aj ?_ | refine ab _ hsub1 ?_)
   refine ⟨pv, fun ho => (hpv (hon ho)).1, .inr hpone, ?_⟩
   refine ⟨fun ho => (hpv (hon ho)).2.1, ?_⟩
   refine aj (aj (aj (aj ?_)))
   refine ⟨[iV x], rfl, ⟨rfl, trivial⟩, fun ho => (hpv (hon ho)).2.2, ?_⟩
   repeat (first | refine af ?_ | refine aj ?_ | refine bc fun _ => ?_ | refine ab _ (dl _ _) ?_ | refine ab _ (jj _ _) ?_ | refine ab _ (rU _ _) ?_ | refine ab _ (kc _ _) ?_ | refine ab _ (nF _ _) ?_ | refine ab _ (ww _ _) ?_ | refine ab _ (gI _ _) ?_ | refine ab _ (eG _ _) ?_ | refine ab _ (aD _) ?_ | refine ab _ (uN _ _) ?_ | refine ab _ (uL _ _) ?_)
   have hbad : pQ (aP b) (aY b.stack) (iU b.objs i) (cC b.objs[i]) b.objs[i] =
     ((((!cC b.objs[i] || (decide ((i : Int) > 0) && decide (x ≥ b.objs[i].id))) || (cF (aP b) b.objs[i].id).isNone) || ((cF (aP b) b.objs[i].id).getD 0 != b.objs[i].owner)) || ((cF (aY b.stack) b.objs[i].id).isSome && ((cF (aY b.stack) b.objs[i].id).getD 0 != b.objs[i].card))) := by
    unfold pQ; rw [hprev]
   have hstep : fZ cC (aP b) (aY b.stack) (iU b.objs i) (b.objs.drop i) = (!pQ (aP b) (aY b.stack) (iU b.objs i) (cC b.objs[i]) b.objs[i] && fZ cC (aP b) (aY b.stack) (some b.objs[i].id) (b.objs.drop (i + 1))) := by
    rw [List.drop_eq_getElem_cons hlt, fZ]
   refine aw (fun hb => ?_) (fun hb => ?_)
   ·refine fU (X := Om ++ Oc) (by rw [List.append_assoc]; exact hO) ⟨?_, rfl⟩
    rw [hpl, hor, hstep, hbad]
    simp only [Bool.not_not] at hb
    rw [hb]; rfl
   ·refine ab _ (du (by omega)) (bV (by simp [Eqs]) hlt ⟨rfl, l13', ?_⟩)
    simp only [Bool.not_not] at hb
    rw [hor, hstep, hbad, hb, pC hlt]; rfl
  ·have hie : i = b.objs.length := by
    have : ¬ ((i : Int) < (b.objs.length : Int)) := by simpa using hb
    omega
   subst hie
   rw [List.drop_length] at hor
   refine af ?_
   refine uG hm hsubm (af (ab _ lo (ab _ (nF _ _) (fU (X := Om ++ Oc) (by rw [List.append_assoc]; exact hO) ⟨?_, rfl⟩))))
   rw [hpl, hor]
   simp only [fZ, Bool.true_and, b7, List.length_map]
   congr 1
   rw [Bool.eq_iff_iff]
   simp only [beq_iff_eq, decide_eq_true_eq]
   omega
theorem tq : ∀ w, (zeroValue rp).run PP w = .ok (.bool false) w := by
 intro w
 have : (PP.info? rp).bind (·.zero) = some (.bool false) := by kernel_rfl
 simp only [Option.bind_eq_some_iff] at this
 obtain ⟨i, hi, hz⟩ := this
 simp [zeroValue, typeInfo, hi, hz]
theorem sT : PP.underlying aV = some (.map dz rp) := by kernel_rfl
theorem wx (a : Int) : ae .neg [iV a] = some (iV (IntKind.i64.wrap (0 - a))) := rfl
theorem nE {lab1 key1 lab2 key2 : Nat} {fo ft av bv : Value} {own other att : List Int} {bl : List Bl} {H : Heap} {O : Go.Sx.Own} {Q : Value → Heap → Go.Sx.Own → Prop} {r0 : Nat}
  {eqs1 : List Value → Value → List (List Value × List Value)}
  {eqs2 : List Value → Value → List (List Value × List Value)}
  (ho : RSl H O 1 fo (ej own)) (ht : RSl H O 1 ft (ej other)) (ha : RSl H O 1 av (ej att)) (hb : RSl H O 2 bv (bl.map Bl.row)) (hpo : ∀ x ∈ own, 0 < x) (hpt : ∀ x ∈ other, 0 < x ∧ x ≤ 500)
  (heq1 : ∀ a b, Eqs (eqs1 a b)) (heq2 : ∀ a b, Eqs (eqs2 a b))
  (hQ : ∀ H', Heap.le H H' → Q (.bool (ix own other att bl)) H' O) :
  (Tree.prim (.makeMap aV false) [] [] [] .one fun l1 _ =>
   .chk (.eqN r0 r0) <|
   .pure [] .len [av] fun v2 =>
   .loop lab1 key1 [(.int .i64 0)] fun C23 l3 =>
    .pure [] (.bin .lss .int) [(g l3 0), v2] fun v4 =>
    .br v4 (
     .pure [] (.idx 1) [av, (g l3 0)] fun v5 =>
     .load [] v5 1 fun l6 =>
     .prim (.lookup aV false) [(g l1 0), (g l6 0)] [] [] .one fun l7 _ =>
     .br (g l7 0) (
      .ret (.bool false) []) (
      .call false aC [fo, (g l6 0)] [] [] .one fun l8 _ =>
      .pure [] .not [(g l8 0)] fun v9 =>
      .br v9 (
       .ret (.bool false) []) (
       .prim (.mapUpdate aV) [(g l1 0), (g l6 0), (.bool true)] [] [] .one fun l10 _ =>
       .pure [] (.bin .add .int) [(g l3 0), (.int .i64 1)] fun v11 =>
       .cont lab1 C23 [v11] (eqs1 l1 v2)))) (
     .chk (.eqN r0 r0) <|
     .pure [] .len [bv] fun v12 =>
     .loop lab2 key2 [(.int .i64 0)] fun C29 l13 =>
      .pure [] (.bin .lss .int) [(g l13 0), v12] fun v14 =>
      .br v14 (
       .pure [] (.idx 2) [bv, (g l13 0)] fun v15 =>
       .load [] v15 2 fun l16 =>
       .newbox fun r1 =>
       .chk (.eqN r1 r1) <|
       .chk (.eqN r1 r1) <|
       .prim (.lookup aV false) [(g l1 0), (g l16 1)] [] [] .one fun l17 _ =>
       .pure [] .not [(g l17 0)] fun v18 =>
       .br v18 (
        .ret (.bool false) []) (
        .chk (.eqN r1 r1) <|
        .pure [] .neg [(g l16 0)] fun v19 =>
        .prim (.lookup aV false) [(g l1 0), v19] [] [] .one fun l20 _ =>
        .br (g l20 0) (
         .ret (.bool false) []) (
         .chk (.eqN r0 r0) <|
         .chk (.eqN r1 r1) <|
         .call false aC [av, (g l16 1)] [] [] .one fun l21 _ =>
         .pure [] .not [(g l21 0)] fun v22 =>
         .br v22 (
          .ret (.bool false) []) (
          .chk (.eqN r1 r1) <|
          .call false aC [ft, (g l16 0)] [] [] .one fun l23 _ =>
          .pure [] .not [(g l23 0)] fun v24 =>
          .br v24 (
           .ret (.bool false) []) (
           .chk (.eqN r1 r1) <|
           .chk (.eqN r1 r1) <|
           .pure [] .neg [(g l16 0)] fun v25 =>
           .prim (.mapUpdate aV) [(g l1 0), (g l16 1), (.bool false)] [] [] .one fun l26 _ =>
           .prim (.mapUpdate aV) [(g l1 0), v25, (.bool true)] [] [] .one fun l27 _ =>
           .pure [] (.bin .add .int) [(g l13 0), (.int .i64 1)] fun v28 =>
           .cont lab2 C29 [v28] (eqs2 l1 v12)))))) (
       .ret (.bool true) []))).den PP Q H O := by
 have la := ha.len
 have lb := hb.len
 rw [ej, List.length_map] at la
 rw [List.length_map] at lb
 refine mE (kd := .i64) fun mv Om0 hm0 => af (ab _ la ?_)
 refine cL att.length (fun i H' O' => Heap.le H H' ∧ ∃ m Om, O'.Perm (Om ++ O) ∧ OMap .i64 mv m Om ∧ (∀ k, (aE m k).getD (.bool false) = .bool (fh (att.take i) [] [] k)) ∧ (att.take i).Nodup ∧ ∀ x ∈ att.take i, x ∈ own)
  ⟨Heap.le_refl H, [], Om0, List.Perm.refl _, hm0, fun k => by simp [aE, fh], by simp, by simp⟩ ?_
 rintro i H1 O1 hi - ⟨l1, m, Om, hO, hm, hs, hnd, hall⟩
 have hsubO : ∀ p ∈ O, p ∈ O1 := fun p hp => hO.mem_iff.2 (List.mem_append_right Om hp)
 have hsubM : ∀ p ∈ Om, p ∈ O1 := fun p hp => hO.mem_iff.2 (List.mem_append_left O hp)
 refine ab _ (dl _ _) (aw (fun hlt => ?_) (fun hge => ?_))
 ·have hlt : i < att.length := by simpa using hlt
  obtain ⟨a, h1, h2, _, h3, h4⟩ := ((ha.le l1).own hsubO).idx .i64 i [iV att[i]] (by simp [ej, hlt])
  refine ab _ h1 (bR h2 h3 h4 ?_)
  refine gn sT uv tq hm hsubM att[i] (by show ((aE m att[i]).getD (.bool false)).oneCell' = true; rw [hs]; rfl) ?_
  show Tree.den PP Q (.br ((aE m att[i]).getD (.bool false)) _ _) H1 O1
  rw [hs]
  have etk : att.take (i + 1) = att.take i ++ [att[i]] := by rw [List.take_add_one, List.getElem?_eq_getElem hlt]; rfl
  refine aw (fun hin => ?_) (fun hnin => ?_)
  ·refine fU hO ?_
   have : ¬ att.Nodup := by
    intro hn
    have hin : att[i] ∈ att.take i := by simpa [fh] using hin
    have hn2 : (att.take (i + 1)).Nodup := hn.sublist (List.take_sublist _ _)
    rw [etk, List.nodup_append] at hn2
    exact hn2.2.2 _ hin _ (by simp) rfl
   have := hQ H1 l1
   simpa [ix, ‹¬ att.Nodup›] using this
  ·refine al (eJ ((ho.le l1).own hsubO) att[i]) rfl ⟨rfl, trivial⟩ fun H2 l2 => ab _ (aD _) (aw (fun hc => ?_) (fun hc => ?_))
   ·refine fU hO ?_
    have hf : (att.all fun x => own.contains x) = false := by
     rw [Bool.eq_false_iff]
     intro hh
     have := List.all_eq_true.1 hh att[i] (List.getElem_mem hlt)
     rw [this] at hc; cases hc
    have := hQ H2 (Heap.le_trans l1 l2)
    simpa only [ix, hf, Bool.false_and, Bool.and_false] using this
   ·refine dW sT uv hm hO att[i] (.bool true) ?_
    intro w Om2 hm2 _
    refine ab _ (du (by have := ha.lenB; simp [ej] at this; omega)) (bV (heq1 _ _) hlt ⟨Heap.le_trans l1 l2, _, Om2, List.Perm.refl _, hm2, ?_, ?_, ?_⟩)
    ·intro k
     rw [lY]
     by_cases hk : k = att[i]
     ·rw [if_pos hk, etk]
      have : fh (att.take i ++ [att[i]]) [] [] k = true := by simp only [fh, decide_eq_true_eq, List.mem_append, List.mem_singleton]; exact .inl ⟨.inr hk, by simp⟩
      rw [this]; rfl
     ·rw [if_neg hk, hs, etk]
      congr 1
      simp only [fh, List.mem_append, List.mem_singleton, hk, or_false]
    ·rw [etk, List.nodup_append]
     refine ⟨hnd, by simp, ?_⟩
     intro x hx y hy
     simp only [List.mem_singleton] at hy
     subst hy
     rintro rfl
     simp [fh] at hnin
     exact hnin hx
    ·rw [etk]
     intro x hx
     rcases List.mem_append.1 hx with hx | hx
     ·exact hall x hx
     ·simp only [List.mem_singleton] at hx
      subst hx
      simpa using hc
 ·have hie : i = att.length := by
   have : ¬ ((i : Int) < (att.length : Int)) := by simpa using hge
   omega
  subst hie
  rw [List.take_length] at hs hnd hall
  have hfb : ix own other att bl = rl att other [] [] bl := by
   have : (att.all fun x => own.contains x) = true := by
    rw [List.all_eq_true]
    intro x hx
    simpa using hall x hx
   simp only [ix, hnd, decide_true, this, Bool.true_and]
  refine af (ab _ lb ?_)
  refine cL bl.length (fun i H' O' => Heap.le H1 H' ∧ ∃ m Om ua ub, O'.Perm (Om ++ O) ∧ OMap .i64 mv m Om ∧ (∀ k, (aE m k).getD (.bool false) = .bool (fh att ua ub k)) ∧ (∀ x ∈ ub, 0 < x) ∧ rl att other [] [] bl = rl att other ua ub (bl.drop i))
   ⟨Heap.le_refl H1, m, Om, [], [], hO, hm, hs, by simp, by simp⟩ ?_
  rintro i H2 O2 hi - ⟨l2, m, Om, ua, ub, hO, hm, hs, hub, hgo⟩
  have l2' := Heap.le_trans l1 l2
  have hsubO : ∀ p ∈ O, p ∈ O2 := fun p hp => hO.mem_iff.2 (List.mem_append_right Om hp)
  have hsubM : ∀ p ∈ Om, p ∈ O2 := fun p hp => hO.mem_iff.2 (List.mem_append_left O hp)
  refine ab _ (dl _ _) (aw (fun hlt => ?_) (fun hge => ?_))
  ·have hlt : i < bl.length := by simpa using hlt
   obtain ⟨a, h1, h2, _, h3, h4⟩ := ((hb.le l2').own hsubO).idx .i64 i (Bl.row bl[i]) (by simp [hlt])
   rw [List.drop_eq_getElem_cons hlt, rl] at hgo
   generalize bl[i] = x at hgo h2 h3 h4
   have hone : ∀ k, ((aE m k).getD (.bool false)).oneCell' = true := fun k => by rw [hs]; rfl
   have fin : ∀ H', Heap.le H H' → ((!ua.contains x.attacker && att.contains x.attacker && (!ub.contains x.blocker && other.contains x.blocker)) = false) → Q (.bool false) H' O := by
    intro H' hl hf
    have := hQ H' hl
    rwa [hfb, hgo, hf, Bool.false_and] at this
   refine ab _ h1 (bR h2 h3 h4 (bc fun r1 => af (af ?_)))
   refine gn sT uv tq hm hsubM x.attacker (hone _) ?_
   show Tree.den PP Q (.pure [] .not [(aE m x.attacker).getD (.bool false)] _) H2 O2
   rw [hs]
   refine ab _ (aD _) (aw (fun h1 => fU hO (fin H2 l2' ?_)) (fun h1 => af (ab _ (wx _) ?_)))
   ·simp only [Bool.not_eq_true', fh, decide_eq_false_iff_not, not_or, not_and, Decidable.not_not] at h1
    by_cases hin : x.attacker ∈ att
    ·have := h1.1 hin
     simp [this]
    ·simp [hin]
   refine gn sT uv tq hm hsubM _ (hone _) ?_
   show Tree.den PP Q (.br ((aE m (IntKind.i64.wrap (0 - x.blocker))).getD (.bool false)) _ _) H2 O2
   rw [hs]
   refine aw (fun h2 => fU hO (fin H2 l2' ?_)) (fun h2 => af (af ?_))
   ·by_cases hin : x.blocker ∈ other
    ·have hr := hpt _ hin
     rw [nR (by omega) (by omega)] at h2
     simp only [fh, decide_eq_true_eq, Int.zero_sub, Int.neg_neg] at h2
     rcases h2 with ⟨h2, _⟩ | h2
     ·have := hpo _ (hall _ h2); omega
     ·simp [h2]
    ·simp [hin]
   refine al (eJ ((ha.le l2').own hsubO) x.attacker) rfl ⟨rfl, trivial⟩ fun H3 l3 => ab _ (aD _) (aw (fun h3 => fU hO (fin H3 (Heap.le_trans l2' l3) ?_)) (fun h3 => af ?_))
   ·simp only [Bool.not_eq_true'] at h3
    rw [h3]; simp
   refine al (eJ ((ht.le (Heap.le_trans l2' l3)).own hsubO) x.blocker) rfl ⟨rfl, trivial⟩ fun H4 l4 => ab _ (aD _) (aw (fun h4 => fU hO (fin H4 (Heap.le_trans l2' (Heap.le_trans l3 l4)) ?_)) (fun h4 => af (af (ab _ (wx _) ?_))))
   ·simp only [Bool.not_eq_true'] at h4
    rw [h4]; simp
   simp only [Bool.not_eq_false'] at h1 h3 h4
   have hain : x.attacker ∈ att := by simpa using h3
   have hbin : x.blocker ∈ other := by simpa using h4
   have hr := hpt _ hbin
   have hapos := hpo _ (hall _ hain)
   rw [nR (by omega) (by omega)] at h2 ⊢
   rw [Int.zero_sub] at h2 ⊢
   refine dW sT uv hm hO x.attacker (.bool false) ?_
   intro w Om2 hm2 _
   refine dW sT uv hm2 (List.Perm.refl _) (-x.blocker) (.bool true) ?_
   intro w Om3 hm3 _
   refine ab _ (du (by have := hb.lenB; simp at this; omega)) (bV (heq2 _ _) hlt ⟨Heap.le_trans l2 (Heap.le_trans l3 l4), _, Om3, x.attacker :: ua, x.blocker :: ub, List.Perm.refl _, hm3, vm hs hub hapos hr.1, ?_, ?_⟩)
   ·intro y hy
    rcases List.mem_cons.1 hy with rfl | hy
    ·exact hr.1
    ·exact hub y hy
   ·rw [hgo]
    have hua : ua.contains x.attacker = false := by
     simp only [fh, decide_eq_true_eq] at h1
     rcases h1 with ⟨_, h1⟩ | h1
     ·simpa using h1
     ·have := hub _ h1; omega
    have hubn : ub.contains x.blocker = false := by
     simp only [fh, decide_eq_false_iff_not, not_or, Int.neg_neg] at h2
     simpa using h2.2
    rw [hua, h3, hubn, h4]; rfl
  ·have hie : i = bl.length := by
    have : ¬ ((i : Int) < (bl.length : Int)) := by simpa using hge
    omega
   subst hie
   rw [List.drop_length] at hgo
   refine fU hO ?_
   have := hQ H2 l2'
   rwa [hfb, hgo, rl] at this
theorem rN {α : Type} [DecidableEq α] : ∀ {l r : List α}, l.Nodup → (∀ x ∈ l, x ∈ r) → l.length ≤ r.length
 | [], _, _, _ => Nat.zero_le _
 | a :: l, r, hn, hs => by
  rw [List.nodup_cons] at hn
  have har : a ∈ r := hs a (by simp)
  have h1 := rN (r := r.erase a) hn.2 fun x hx => by
   have : x ≠ a := fun e => hn.1 (e ▸ hx)
   exact (List.mem_erase_of_ne this).2 (hs x (by simp [hx]))
  rw [List.length_erase_of_mem har] at h1
  have := List.length_pos_of_mem har
  simp only [List.length_cons]; omega
theorem sM {α : Type} [DecidableEq α] {l r : List α} (hn : l.Nodup) (hs : ∀ x ∈ l, x ∈ r) (hl : r.length ≤ l.length) : ∀ x ∈ r, x ∈ l := by
 intro x hx
 rcases Classical.em (x ∈ l) with h | h
 ·exact h
 ·have := rN (l := x :: l) (r := r) (List.nodup_cons.2 ⟨h, hn⟩) (fun y hy => by
   rcases List.mem_cons.1 hy with rfl | hy
   ·exact hx
   ·exact hs y hy)
  simp only [List.length_cons] at this; omega
theorem pP {val : Ob → Bool} {ps cs : List (Int × Int)} : ∀ {l : List Ob} {prev : Option Int}, fZ val ps cs prev l = true →
  (∀ o ∈ l, val o = true ∧ (cF ps o.id).isSome = true ∧ ∀ p, prev = some p → p < o.id) ∧ (l.map (·.id)).Nodup
 | [], _, _ => ⟨by simp, by simp⟩
 | o :: r, prev, h => by
  simp only [fZ, pQ, Bool.and_eq_true, Bool.not_eq_true', Bool.or_eq_false_iff, Bool.not_eq_false'] at h
  obtain ⟨⟨⟨⟨⟨h1, h2⟩, h3⟩, _⟩, _⟩, h6⟩ := h
  obtain ⟨k1, k2⟩ := pP h6
  have hp : ∀ p, prev = some p → p < o.id := by
   rintro p rfl
   simp only [lJ, decide_eq_false_iff_not] at h2
   omega
  refine ⟨?_, ?_⟩
  ·intro x hx
   rcases List.mem_cons.1 hx with rfl | hx
   ·refine ⟨h1, ?_, hp⟩
    cases hl : cF ps x.id with
    | none => rw [hl] at h3; cases h3
    | some v => rfl
   ·obtain ⟨a1, a2, a3⟩ := k1 x hx
    exact ⟨a1, a2, fun p e => by have := a3 _ rfl; have := hp p e; omega⟩
  ·rw [List.map_cons, List.nodup_cons]
   refine ⟨?_, k2⟩
   intro hm
   obtain ⟨x, hx, e⟩ := List.mem_map.1 hm
   have := (k1 x hx).2.2 _ rfl
   omega
theorem sG {val : Ob → Bool} {b : Bd} (h : eF val b = true) : ∀ x ∈ (aP b).map (·.1), ∃ o ∈ b.objs, o.id = x ∧ val o = true := by
 simp only [eF, Bool.and_eq_true, decide_eq_true_eq] at h
 obtain ⟨_, h2, h3⟩ := h
 obtain ⟨k1, k2⟩ := pP h2
 intro x hx
 have := sM (l := b.objs.map (·.id)) (r := (aP b).map (·.1)) k2 (fun y hy => by
  obtain ⟨o, ho, rfl⟩ := List.mem_map.1 hy
  have := (k1 o ho).2.1
  rcases Classical.em (o.id ∈ (aP b).map (·.1)) with h | h
  ·exact h
  ·rw [dL.2 h] at this; cases this) (by simp [h3]) x hx
 obtain ⟨o, ho, rfl⟩ := List.mem_map.1 this
 exact ⟨o, ho, rfl, (k1 o ho).1⟩
theorem tw {o : Ob} (h : cC o = true) : 1 ≤ o.id ∧ o.id ≤ 500 := by
 simp only [cC, Bool.and_eq_true, decide_eq_true_eq] at h
 exact ⟨h.1.2.1.1.1.2, h.1.2.1.1.2⟩
theorem sF {b : Bd} (h : eF cC b = true) : ∀ x, x ∈ b.s0.field ∨ x ∈ b.s1.field → 0 < x ∧ x ≤ 500 := by
 intro x hx
 obtain ⟨o, _, rfl, ho⟩ := sG h x (by
  simp only [aP, ef, List.map_append, List.map_map, List.mem_append, List.mem_map, Function.comp]
  rcases hx with hx | hx
  ·left; right; right; left; exact ⟨x, hx, rfl⟩
  ·right; left; right; right; left; exact ⟨x, hx, rfl⟩)
 have := tw ho
 omega
def jm (b : Bd) : Bool := if b.active = 0 then ix b.s0.field b.s1.field b.att b.blocks else ix b.s1.field b.s0.field b.att b.blocks
theorem wk {H : Heap} {O : Go.Sx.Own} {v : qD} {b : Bd} (h : BdR H O v b) (ha : b.active = 0 ∨ b.active = 1) (hp : ∀ x, x ∈ b.s0.field ∨ x ∈ b.s1.field → 0 < x ∧ x ≤ 500) :
  RetO PP ii [.agg (gv v b).toArray] H O (.bool (jm b)) := by
 refine kF (vs := gv v b) (by kernel_rfl) (iI h) ?_
 simp only [ia]
 refine bc fun r0 => af ?_
 have e34 : g (gv v b) 34 = iV b.active := rfl
 rw [e34]
 have hs : ∀ n : Int, n = 0 ∨ n = 1 → ae (.bin .sub .int) [iV 1, iV n] = some (iV (1 - n)) := by
  rintro n (rfl | rfl) <;> rfl
 rcases ha with ha | ha
 ·rw [ha]
  refine ⟨.i64, 0, rfl, fun _ => af (af (ab _ (hs 0 (.inl rfl)) ⟨.i64, 1, rfl, fun e => absurd e (by omega), fun _ => ⟨.i64, 1, rfl, fun _ => ?_, fun e => absurd rfl e⟩⟩)), fun e => absurd rfl e⟩
  refine af ?_
  refine nE h.s0.field h.s1.field h.att h.blocks (fun x hx => (hp x (.inl hx)).1) (fun x hx => hp x (.inr hx)) ?_ ?_ ?_
  ·intros; simp [Eqs]
  ·intros; simp [Eqs]
  ·exact fun H' _ => ⟨by simp [jm, ha], rfl⟩
 ·rw [ha]
  refine ⟨.i64, 1, rfl, fun e => absurd e (by omega), fun _ => ⟨.i64, 1, rfl, fun _ => af (af (ab _ (hs 1 (.inr rfl)) ⟨.i64, 0, rfl, fun _ => ?_, fun e => absurd rfl e⟩)), fun e => absurd rfl e⟩⟩
  refine af ?_
  refine nE h.s1.field h.s0.field h.att h.blocks (fun x hx => (hp x (.inr hx)).1) (fun x hx => hp x (.inl hx)) ?_ ?_ ?_
  ·intros; simp [Eqs]
  ·intros; simp [Eqs]
  ·exact fun H' _ => ⟨by simp [jm, ha], rfl⟩
theorem tf {b : Bool} (h : (!b) = true) : b = false := by simpa using h
theorem tj {b : Bool} (h : (!b) = false) : b = true := by simpa using h
def cV (s : St) : Bool := ak s.life 0 9999 && (([s.p0, s.p1, s.p2, s.p3].all fun n => ak n 0 99) && (ak s.mull 0 7 && ak s.acts 0 255))
def uk (b : Bd) : Bool := ((!ak b.passes 0 2 || decide ((b.objs.length : Int) > 500)) || decide ((b.stack.length : Int) > 200)) || decide ((b.queue.length : Int) > 200)
def bD (b : Bd) : Bool := ak b.active 0 1 && (ak b.turn 0 1000 && (ak b.phase 0 10 && (ak b.holder (-1) 1 && (!uk b && (cV b.s0 && (cV b.s1 &&
 (!(b.stack.any fun x => !kJ x false) && (!(b.queue.any fun x => !kJ x true) && (eF cC b && jm b)))))))))
theorem oV {H : Heap} {O : Go.Sx.Own} {v : qD} {b : Bd} (h : BdR H O v b) : RetO PP fH [.agg (gv v b).toArray] H O (.bool (bD b)) := by
 refine ly (vs := gv v b) (by kernel_rfl) (iI h) ?_
 simp only [jz]
 refine bc fun r0 => ?_
 refine af (al (bo b.active 0 1 H O) rfl ⟨rfl, trivial⟩ fun H1 l1 => ab _ (aD _) (aw (fun hb => an ⟨?_, rfl⟩) (fun hb => ?_)))
 ·have kf : ak b.active 0 1 = false := tf hb
  simp only [bD, kf, Bool.true_and, Bool.false_and, Bool.and_false]
 have k1 : ak b.active 0 1 = true := tj hb
 replace h := h.le l1
 clear hb
 refine af (al (bo b.turn 0 1000 H1 O) rfl ⟨rfl, trivial⟩ fun H2 l2 => ab _ (aD _) (aw (fun hb => an ⟨?_, rfl⟩) (fun hb => ?_)))
 ·have kf : ak b.turn 0 1000 = false := tf hb
  simp only [bD, k1, kf, Bool.true_and, Bool.false_and, Bool.and_false]
 have k2 : ak b.turn 0 1000 = true := tj hb
 replace h := h.le l2
 clear hb
 refine af (al (bo b.phase 0 10 H2 O) rfl ⟨rfl, trivial⟩ fun H3 l3 => ab _ (aD _) (aw (fun hb => an ⟨?_, rfl⟩) (fun hb => ?_)))
 ·have kf : ak b.phase 0 10 = false := tf hb
  simp only [bD, k1, k2, kf, Bool.true_and, Bool.false_and, Bool.and_false]
 have k3 : ak b.phase 0 10 = true := tj hb
 replace h := h.le l3
 clear hb
 refine af (al (bo b.holder (-1) 1 H3 O) rfl ⟨rfl, trivial⟩ fun H4 l4 => ab _ (aD _) (aw (fun hb => an ⟨?_, rfl⟩) (fun hb => ?_)))
 ·have kf : ak b.holder (-1) 1 = false := tf hb
  simp only [bD, k1, k2, k3, kf, Bool.true_and, Bool.false_and, Bool.and_false]
 have k4 : ak b.holder (-1) 1 = true := tj hb
 replace h := h.le l4
 clear hb
 refine af (al (bo b.passes 0 2 H4 O) rfl ⟨rfl, trivial⟩ fun H5 l5 => ab _ (aD _) ?_)
 replace h := h.le l5
 have lo := h.objs.len
 rw [List.length_map] at lo
 refine af (aj (aj ?_))
 refine ab _ (lo) (aj (ab _ (jj _ _) (aj (ab _ (eG _ _) ?_))))
 refine af (aj (aj ?_))
 refine ab _ (ItsR.len h.stack) (aj (ab _ (jj _ _) (aj (ab _ (eG _ _) ?_))))
 refine af (aj (aj ?_))
 refine ab _ (ItsR.len h.queue) (aj (ab _ (jj _ _) (aj (ab _ (eG _ _) ?_))))
 refine aw (fun hb => an ⟨?_, rfl⟩) (fun hb => ?_)
 ·have kf : uk b = true := hb
  simp only [bD, k1, k2, k3, k4, kf, Bool.true_and, Bool.not_true, Bool.false_and]
 have kmid : uk b = false := hb
 clear hb
 refine af (bc fun r1 => af ?_)
 refine af (al (bo b.s0.life 0 9999 H5 O) rfl ⟨rfl, trivial⟩ fun H6 l6 => ab _ (aD _) (aw (fun hb => an ⟨?_, rfl⟩) (fun hb => ?_)))
 ·have kf : ak b.s0.life 0 9999 = false := tf hb
  simp only [bD, cV, k1, k2, k3, k4, kmid, kf, Bool.true_and, Bool.false_and, Bool.and_false, Bool.not_false]
 have k6 : ak b.s0.life 0 9999 = true := tj hb
 replace h := h.le l6
 clear hb
 refine af (al (kp b.s0.p0 b.s0.p1 b.s0.p2 b.s0.p3 H6 O) rfl ⟨rfl, trivial⟩ fun H7 l7 => ab _ (aD _) (aw (fun hb => an ⟨?_, rfl⟩) (fun hb => ?_)))
 ·have kf : ([b.s0.p0, b.s0.p1, b.s0.p2, b.s0.p3].all fun n => ak n 0 99) = false := tf hb
  simp only [bD, cV, k1, k2, k3, k4, kmid, k6, kf, Bool.true_and, Bool.false_and, Bool.and_false, Bool.not_false]
 have k7 : ([b.s0.p0, b.s0.p1, b.s0.p2, b.s0.p3].all fun n => ak n 0 99) = true := tj hb
 replace h := h.le l7
 clear hb
 refine af (al (bo b.s0.mull 0 7 H7 O) rfl ⟨rfl, trivial⟩ fun H8 l8 => ab _ (aD _) (aw (fun hb => an ⟨?_, rfl⟩) (fun hb => ?_)))
 ·have kf : ak b.s0.mull 0 7 = false := tf hb
  simp only [bD, cV, k1, k2, k3, k4, kmid, k6, k7, kf, Bool.true_and, Bool.false_and, Bool.and_false, Bool.not_false]
 have k8 : ak b.s0.mull 0 7 = true := tj hb
 replace h := h.le l8
 clear hb
 refine af (al (bo b.s0.acts 0 255 H8 O) rfl ⟨rfl, trivial⟩ fun H9 l9 => ab _ (aD _) (aw (fun hb => an ⟨?_, rfl⟩) (fun hb => ?_)))
 ·have kf : ak b.s0.acts 0 255 = false := tf hb
  simp only [bD, cV, k1, k2, k3, k4, kmid, k6, k7, k8, kf, Bool.true_and, Bool.false_and, Bool.and_false, Bool.not_false]
 have k9 : ak b.s0.acts 0 255 = true := tj hb
 replace h := h.le l9
 clear hb
 refine bc fun r2 => af ?_
 refine af (al (bo b.s1.life 0 9999 H9 O) rfl ⟨rfl, trivial⟩ fun H10 l10 => ab _ (aD _) (aw (fun hb => an ⟨?_, rfl⟩) (fun hb => ?_)))
 ·have kf : ak b.s1.life 0 9999 = false := tf hb
  simp only [bD, cV, k1, k2, k3, k4, kmid, k6, k7, k8, k9, kf, Bool.true_and, Bool.false_and, Bool.and_false, Bool.not_false]
 have k10 : ak b.s1.life 0 9999 = true := tj hb
 replace h := h.le l10
 clear hb
 refine af (al (kp b.s1.p0 b.s1.p1 b.s1.p2 b.s1.p3 H10 O) rfl ⟨rfl, trivial⟩ fun H11 l11 => ab _ (aD _) (aw (fun hb => an ⟨?_, rfl⟩) (fun hb => ?_)))
 ·have kf : ([b.s1.p0, b.s1.p1, b.s1.p2, b.s1.p3].all fun n => ak n 0 99) = false := tf hb
  simp only [bD, cV, k1, k2, k3, k4, kmid, k6, k7, k8, k9, k10, kf, Bool.true_and, Bool.false_and, Bool.and_false, Bool.not_false]
 have k11 : ([b.s1.p0, b.s1.p1, b.s1.p2, b.s1.p3].all fun n => ak n 0 99) = true := tj hb
 replace h := h.le l11
 clear hb
 refine af (al (bo b.s1.mull 0 7 H11 O) rfl ⟨rfl, trivial⟩ fun H12 l12 => ab _ (aD _) (aw (fun hb => an ⟨?_, rfl⟩) (fun hb => ?_)))
 ·have kf : ak b.s1.mull 0 7 = false := tf hb
  simp only [bD, cV, k1, k2, k3, k4, kmid, k6, k7, k8, k9, k10, k11, kf, Bool.true_and, Bool.false_and, Bool.and_false, Bool.not_false]
 have k12 : ak b.s1.mull 0 7 = true := tj hb
 replace h := h.le l12
 clear hb
 refine af (al (bo b.s1.acts 0 255 H12 O) rfl ⟨rfl, trivial⟩ fun H13 l13 => ab _ (aD _) (aw (fun hb => an ⟨?_, rfl⟩) (fun hb => ?_)))
 ·have kf : ak b.s1.acts 0 255 = false := tf hb
  simp only [bD, cV, k1, k2, k3, k4, kmid, k6, k7, k8, k9, k10, k11, k12, kf, Bool.true_and, Bool.false_and, Bool.and_false, Bool.not_false]
 have k13 : ak b.s1.acts 0 255 = true := tj hb
 replace h := h.le l13
 clear hb
 refine af (al (dX (p := fun x => !kJ x false) h.stack rfl (im iY (by decide)) fun H' _ row x hx => uK hx) rfl ⟨rfl, trivial⟩ fun H20 l20 => aw (fun hb => an ⟨?_, rfl⟩) (fun hb => ?_))
 ·simp only [bD, cV, k1, k2, k3, k4, kmid, k6, k7, k8, k9, k10, k11, k12, k13, hb, Bool.true_and, Bool.not_true, Bool.not_false, Bool.false_and]
 replace h := h.le l20
 refine af (al (dX (p := fun x => !kJ x true) h.queue rfl (im iY (by decide)) fun H' _ row x hx => uJ hx) rfl ⟨rfl, trivial⟩ fun H21 l21 => ab _ (aD _) (aw (fun hq => ?_) (fun hq => an ⟨?_, rfl⟩)))
 ·replace h := h.le l21
  simp only [Bool.not_eq_true'] at hq
  have hfin : bD b = (eF cC b && jm b) := by simp only [bD, cV, k1, k2, k3, k4, kmid, k6, k7, k8, k9, k10, k11, k12, k13, hb, hq, Bool.true_and, Bool.not_false]
  refine af (al (we h) rfl ⟨rfl, trivial⟩ fun H22 l22 => aw (fun hp => ?_) (fun hp => an ⟨?_, rfl⟩))
  ·replace h := h.le l22
   have ha : b.active = 0 ∨ b.active = 1 := by have := k1; simp only [ak, decide_eq_true_eq] at this; omega
   refine af (al (wk h ha (sF hp)) rfl ⟨rfl, trivial⟩ fun H23 l23 => an ⟨?_, rfl⟩)
   rw [hfin, hp, Bool.true_and]; rfl
  ·rw [hfin, hp]; rfl
 ·simp only [Bool.not_eq_false'] at hq
  simp only [bD, cV, k1, k2, k3, k4, kmid, k6, k7, k8, k9, k10, k11, k12, k13, hb, hq, Bool.true_and, Bool.not_false, Bool.not_true, Bool.false_and]
end Go.Proofs.YtocfkcilcfojiaaGreatDoor
namespace Go.Sx
open Go
abbrev Mem := List (Nat × Option Bx)
abbrev Dec (α : Type) := List At → Option (List Ck × α)
def dI : At → Option Int
 | .k (.int .i64 n) => some n
 | _ => none
def dB : At → Option Bool
 | .k (.bool b) => some b
 | _ => none
theorem bS {a : At} {n : Int} (h : dI a = some n) : a = .k (iV n) := by
 unfold dI at h
 split at h
 ·cases h; rfl
 ·cases h
theorem oO {a : At} {n : Bool} (h : dB a = some n) : a = .k (.bool n) := by
 unfold dB at h
 split at h
 ·cases h; rfl
 ·cases h
def tV {α : Type} (size : Nat) (dec : Dec α) : Nat → List At → Option (List Ck × List α)
 | 0, _ => some ([], [])
 | n + 1, cs =>
  match dec (cs.take size) with
  | none => none
  | some (k, a) => match tV size dec n (cs.drop size) with
   | none => none
   | some (k', l) => some (k ++ k', a :: l)
def slD {α : Type} (mem : Mem) (size : Nat) (dec : Dec α) : At → Option (List Ck × List α)
 | .k (.slice none 0 0) => some ([], [])
 | .sl n r off len _ =>
  match aO mem n with
  | some (some b) => if (Nat.ble (off + len * size) b.cs.length && Nat.blt len 4611686018427387904) = true then
    match tV size dec len (b.cs.drop off) with
    | some (k, l) => some (.eqN r b.r :: k, l)
    | none => none
   else none
  | _ => none
 | _ => none
def o9 {α : Type} (size : Nat) (dec : Dec α) (Rl : List Value → α → Prop) : Prop :=
 ∀ cs k a, dec cs = some (k, a) → AllCk k → cs.length = size ∧ cs.all At.known = true ∧ Rl (cs.map At.den) a ∧ Ones (cs.map At.den)
theorem rE {α : Type} {size : Nat} {dec : Dec α} {Rl : List Value → α → Prop} (hd : o9 size dec Rl) : ∀ {n : Nat} {cs : List At} {vs : List Value} {k : List Ck} {l : List α}, tV size dec n cs = some (k, l) → AllCk k → CellsRel cs vs →
  l.length = n ∧ ∀ (i : Nat) (a : α), l[i]? = some a → Rl ((vs.drop (i * size)).take size) a ∧ Ones ((vs.drop (i * size)).take size) ∧ ((vs.drop (i * size)).take size).length = size
 | 0, cs, vs, k, l, h, _, _ => by
  simp only [tV, Option.some.injEq, Prod.mk.injEq] at h
  obtain ⟨_, rfl⟩ := h
  exact ⟨rfl, fun i a h => by simp at h⟩
 | n + 1, cs, vs, k, l, h, hk, hr => by
  simp only [tV] at h
  split at h
  ·cases h
  ·rename_i k1 a h1
   split at h
   ·cases h
   ·rename_i k2 l' h2
    simp only [Option.some.injEq, Prod.mk.injEq] at h
    obtain ⟨rfl, rfl⟩ := h
    rw [AllCk.append] at hk
    obtain ⟨d1, d2, d3, d4⟩ := hd _ _ _ h1 hk.1
    have e : vs.take size = (cs.take size).map At.den := (hr.take size).known d2
    obtain ⟨i1, i2⟩ := rE hd h2 hk.2 (hr.drop size)
    refine ⟨by simp [i1], fun i a' hi => ?_⟩
    cases i with
    | zero =>
     simp only [List.getElem?_cons_zero, Option.some.injEq] at hi
     subst hi
     rw [Nat.zero_mul, List.drop_zero, e]
     exact ⟨d3, d4, by rw [List.length_map, d1]⟩
    | succ i =>
     have := i2 i a' (by simpa using hi)
     rw [List.drop_drop] at this
     rw [show (i + 1) * size = size + i * size by rw [Nat.add_mul]; omega]
     exact this
theorem tL {α : Type} {mem : Mem} {size : Nat} {dec : Dec α} {Rl : List Value → α → Prop} (hd : o9 size dec Rl) {x : At} {k : List Ck} {l : List α} (h : slD mem size dec x = some (k, l)) (hk : AllCk k) {L : Go.Sx.Own} (hB : Boxes (fun n => (aO mem n).getD none) L) (H : Heap) :
  x.known = true ∧ ∃ rows, RSl H L size x.den rows ∧ rows.length = l.length ∧ ∀ (i : Nat) (r : List Value) (a : α), rows[i]? = some r → l[i]? = some a → Rl r a := by
 unfold slD at h
 split at h
 ·simp only [Option.some.injEq, Prod.mk.injEq] at h
  obtain ⟨_, rfl⟩ := h
  exact ⟨rfl, [], (Sl.nil H size).rsl L, rfl, fun i r a h => by simp at h⟩
 ·rename_i n r off len cap
  split at h
  ·rename_i b hb
   split at h
   ·rename_i hc
    split at h
    ·rename_i k' l' hrow
     simp only [Option.some.injEq, Prod.mk.injEq] at h
     obtain ⟨rfl, rfl⟩ := h
     obtain ⟨hr, hk'⟩ := hk
     have hr : r = b.r := hr
     subst hr
     rw [Bool.and_eq_true] at hc
     have hfit : off + len * size ≤ b.cs.length := Nat.le_of_ble_eq_true hc.1
     have hlen : len < 4611686018427387904 := Nat.le_of_ble_eq_true hc.2
     obtain ⟨vs, L', hrel, hp, _⟩ := hB.take (n := n) (b := b) (by simp [hb])
     have hvl := hrel.length
     obtain ⟨l1, l2⟩ := rE hd hrow hk' (hrel.drop off)
     refine ⟨rfl, (List.range len).map fun i => ((vs.drop off).drop (i * size)).take size, ⟨rfl, ?_, ?_, ?_⟩, by simp [l1], ?_⟩
     ·simp [At.den, ae, goInt]
     ·simp; omega
     ·intro kd i row hi
      have hlt : i < len := by
       have := (List.getElem?_eq_some_iff.1 hi).1
       simpa using this
      have hrowi : ((vs.drop off).drop (i * size)).take size = row := by
       rw [List.getElem?_map, List.getElem?_range hlt] at hi
       simpa using hi
      have hli : l'[i]? = some l'[i] := List.getElem?_eq_getElem (by omega)
      obtain ⟨q1, q2, q3⟩ := l2 i _ hli
      rw [hrowi] at q1 q2 q3
      have hmem : (b.r, Obj.cells vs.toArray b.T (0, 0)) ∈ L := hp.mem_iff.2 (by simp)
      refine ⟨⟨b.r, off + i * size, none⟩, ?_, .inr ⟨_, vs.toArray, b.T, rfl, rfl, hmem, ?_, q3⟩, fun o m hle => .inr ⟨⟨b.r, off + i * size + o, none⟩, vs.toArray, b.T, ?_, rfl, hmem, ?_, ?_⟩, q3, q2⟩
      ·simp only [At.den, ae, fD]
       rw [if_pos ⟨by omega, by omega⟩, aT]
       simp
      ·rw [← hrowi, List.drop_drop]
      ·show Value.pointer (some ((⟨b.r, off + i * size, none⟩ : Addr).add o)) = _
       rw [aT]
      ·rw [← hrowi, List.drop_drop, List.drop_take, List.take_take, Nat.min_eq_left (by omega), List.drop_drop]
      ·rw [List.length_take, List.length_drop, q3]; omega
     ·intro i r a hi ha
      have hlt : i < len := by
       have := (List.getElem?_eq_some_iff.1 hi).1
       simpa using this
      rw [List.getElem?_map, List.getElem?_range hlt] at hi
      have hi : ((vs.drop off).drop (i * size)).take size = r := by simpa using hi
      rw [← hi]
      exact (l2 i a ha).1
    ·cases h
   ·cases h
  ·cases h
 ·cases h
theorem dt {α : Type} {mem : Mem} {size : Nat} {dec : Dec α} {row : α → List Value} (hd : o9 size dec fun r a => r = row a) {x : At} {k : List Ck} {l : List α} (h : slD mem size dec x = some (k, l)) (hk : AllCk k) {L : Go.Sx.Own} (hB : Boxes (fun n => (aO mem n).getD none) L) (H : Heap) :
  RSl H L size x.den (l.map row) := by
 obtain ⟨_, rows, h1, h2, h3⟩ := tL hd h hk hB H
 have : rows = l.map row := by
  refine List.ext_getElem (by simp [h2]) fun i a b => ?_
  have := h3 i rows[i] l[i] (List.getElem?_eq_getElem a) (List.getElem?_eq_getElem (by omega))
  rw [this]; simp
 rw [← this]; exact h1
def gk : Dec Int
 | [a] => match dI a with | some n => some ([], n) | none => none
 | _ => none
theorem cJ : o9 1 gk fun r n => r = [iV n] := by
 intro cs k a h _
 unfold gk at h
 split at h
 ·split at h
  ·rename_i n hn
   simp only [Option.some.injEq, Prod.mk.injEq] at h
   obtain ⟨_, rfl⟩ := h
   obtain rfl := bS hn
   exact ⟨rfl, rfl, rfl, rfl, trivial⟩
  ·cases h
 ·cases h
def nH {α : Type} (f : Int → Int → α) : Dec α
 | [a, b] => match dI a, dI b with | some n, some m => some ([], f n m) | _, _ => none
 | _ => none
theorem qk {α : Type} {f : Int → Int → α} {row : α → List Value} (hf : ∀ n m, row (f n m) = [iV n, iV m]) : o9 2 (nH f) fun r a => r = row a := by
 intro cs k a h _
 unfold nH at h
 split at h
 ·split at h
  ·rename_i n m hn hm
   simp only [Option.some.injEq, Prod.mk.injEq] at h
   obtain ⟨_, rfl⟩ := h
   obtain rfl := bS hn
   obtain rfl := bS hm
   exact ⟨rfl, rfl, (hf n m).symm, rfl, rfl, trivial⟩
  ·cases h
 ·cases h
def xu : Dec Ob
 | [a0, a1, a2, a3, a4, a5, a6, a7, a8, b0, b1, b2] =>
  (dI a0).bind fun n0 => (dI a1).bind fun n1 => (dI a2).bind fun n2 => (dI a3).bind fun n3 => (dI a4).bind fun n4 => (dI a5).bind fun n5 => (dI a6).bind fun n6 => (dI a7).bind fun n7 => (dI a8).bind fun n8 => (dB b0).bind fun m0 => (dB b1).bind fun m1 => (dB b2).bind fun m2 => some ([], ⟨n0, n1, n2, n3, n4, n5, n6, n7, n8, m0, m1, m2⟩)
 | _ => none
theorem vV : o9 12 xu fun r o => r = Ob.row o := by
 intro cs k a h _
 unfold xu at h
 split at h
 ·simp only [Option.bind_eq_some_iff, Option.some.injEq, Prod.mk.injEq] at h
  obtain ⟨n0, e0, n1, e1, n2, e2, n3, e3, n4, e4, n5, e5, n6, e6, n7, e7, n8, e8, m0, f0, m1, f1, m2, f2, _, rfl⟩ := h
  obtain rfl := bS e0
  obtain rfl := bS e1
  obtain rfl := bS e2
  obtain rfl := bS e3
  obtain rfl := bS e4
  obtain rfl := bS e5
  obtain rfl := bS e6
  obtain rfl := bS e7
  obtain rfl := bS e8
  obtain rfl := oO f0
  obtain rfl := oO f1
  obtain rfl := oO f2
  exact ⟨rfl, rfl, rfl, rfl, rfl, rfl, rfl, rfl, rfl, rfl, rfl, rfl, rfl, rfl, rfl, trivial⟩
 ·cases h
def uD (mem : Mem) : Dec It
 | [a0, a1, a2, a3, s] => (dI a0).bind fun n0 => (dI a1).bind fun n1 => (dI a2).bind fun n2 => (dI a3).bind fun n3 => (slD mem 2 (nH Tg.mk) s).bind fun t => some (t.1, ⟨n0, n1, n2, n3, t.2⟩)
 | _ => none
theorem sc : o9 2 (nH Tg.mk) fun r t => r = Tg.row t := qk fun _ _ => rfl
theorem vX : o9 2 (nH Bl.mk) fun r t => r = Bl.row t := qk fun _ _ => rfl
theorem vW {mem : Mem} {L : Go.Sx.Own} (hB : Boxes (fun n => (aO mem n).getD none) L) (H : Heap) : o9 5 (uD mem) fun r x => ItR H L r x := by
 intro cs k a h hk
 unfold uD at h
 split at h
 ·simp only [Option.bind_eq_some_iff, Option.some.injEq, Prod.mk.injEq] at h
  obtain ⟨n0, e0, n1, e1, n2, e2, n3, e3, t, e4, rfl, rfl⟩ := h
  obtain rfl := bS e0
  obtain rfl := bS e1
  obtain rfl := bS e2
  obtain rfl := bS e3
  have hs := dt sc e4 hk hB H
  have hkn := (tL sc e4 hk hB H).1
  exact ⟨rfl, by rw [List.all_cons, List.all_cons, List.all_cons, List.all_cons, List.all_cons, hkn]; rfl, ⟨_, rfl, hs⟩, rfl, rfl, rfl, rfl, hs.one, trivial⟩
 ·cases h
theorem tM {mem : Mem} {x : At} {k : List Ck} {l : List It} (h : slD mem 5 (uD mem) x = some (k, l)) (hk : AllCk k) {L : Go.Sx.Own} (hB : Boxes (fun n => (aO mem n).getD none) L) (H : Heap) : ItsR H L x.den l := by
 obtain ⟨_, rows, h1, h2, h3⟩ := tL (vW hB H) h hk hB H
 exact ⟨rows, h1, h2, h3⟩
def dBd (mem : Mem) : List At → Option (List Ck × qD × Bd)
 | a0 :: a1 :: a2 :: a3 :: a4 :: a5 :: a6 :: a7 :: a8 :: a9 :: a10 :: a11 :: a12 :: a13 :: a14 :: a15 :: a16 :: a17 :: a18 :: a19 :: a20 :: a21 :: a22 :: a23 :: a24 :: a25 :: a26 :: a27 :: a28 :: a29 :: a30 :: a31 :: a32 :: a33 :: a34 :: a35 :: a36 :: a37 :: [] =>
  (slD mem 12 xu a0).bind fun n0 => (dI a1).bind fun n1 => (dI a2).bind fun n2 => (dI a3).bind fun n3 => (dI a4).bind fun n4 => (dI a5).bind fun n5 => (slD mem 1 gk a6).bind fun n6 => (slD mem 1 gk a7).bind fun n7 => (slD mem 1 gk a8).bind fun n8 => (slD mem 1 gk a9).bind fun n9 => (dB a10).bind fun n10 => (dB a11).bind fun n11 => (dB a12).bind fun n12 => (dI a13).bind fun n13 => (dI a14).bind fun n14 => (dI a15).bind fun n15 => (dI a16).bind fun n16 => (dI a17).bind fun n17 => (dI a18).bind fun n18 => (dI a19).bind fun n19 => (slD mem 1 gk a20).bind fun n20 => (slD mem 1 gk a21).bind fun n21 => (slD mem 1 gk a22).bind fun n22 => (slD mem 1 gk a23).bind fun n23 => (dB a24).bind fun n24 => (dB a25).bind fun n25 => (dB a26).bind fun n26 => (dI a27).bind fun n27 => (dI a28).bind fun n28 => (slD mem 5 (uD mem) a29).bind fun n29 => (slD mem 5 (uD mem) a30).bind fun n30 => (slD mem 1 gk a31).bind fun n31 => (slD mem 2 (nH Bl.mk) a32).bind fun n32 => (dI a33).bind fun n33 => (dI a34).bind fun n34 => (dI a35).bind fun n35 => (dI a36).bind fun n36 => (dI a37).bind fun n37 => 
   some (n0.1 ++ (n6.1 ++ (n7.1 ++ (n8.1 ++ (n9.1 ++ (n20.1 ++ (n21.1 ++ (n22.1 ++ (n23.1 ++ (n29.1 ++ (n30.1 ++ (n31.1 ++ (n32.1)))))))))))), ⟨a0.den, a6.den, a7.den, a8.den, a9.den, a20.den, a21.den, a22.den, a23.den, a29.den, a30.den, a31.den, a32.den⟩, ⟨n0.2, ⟨n1, n2, n3, n4, n5, n6.2, n7.2, n8.2, n9.2, n10, n11, n12, n13, n14⟩, ⟨n15, n16, n17, n18, n19, n20.2, n21.2, n22.2, n23.2, n24, n25, n26, n27, n28⟩, n29.2, n30.2, n31.2, n32.2, n33, n34, n35, n36, n37⟩)
 | _ => none
theorem yp {mem : Mem} {l : List At} {k : List Ck} {v : qD} {b : Bd} (h : dBd mem l = some (k, v, b)) (hk : AllCk k) {L : Go.Sx.Own} (hB : Boxes (fun n => (aO mem n).getD none) L) (H : Heap) : l.map At.den = gv v b ∧ BdR H L v b := by
 unfold dBd at h
 split at h
 ·simp only [Option.bind_eq_some_iff, Option.some.injEq, Prod.mk.injEq] at h
  obtain ⟨n0, e0, n1, e1, n2, e2, n3, e3, n4, e4, n5, e5, n6, e6, n7, e7, n8, e8, n9, e9, n10, e10, n11, e11, n12, e12, n13, e13, n14, e14, n15, e15, n16, e16, n17, e17, n18, e18, n19, e19, n20, e20, n21, e21, n22, e22, n23, e23, n24, e24, n25, e25, n26, e26, n27, e27, n28, e28, n29, e29, n30, e30, n31, e31, n32, e32, n33, e33, n34, e34, n35, e35, n36, e36, n37, e37, rfl, rfl, rfl⟩ := h
  simp only [AllCk.append] at hk
  obtain ⟨c0, c6, c7, c8, c9, c20, c21, c22, c23, c29, c30, c31, c32⟩ := hk
  obtain rfl := bS e1
  obtain rfl := bS e2
  obtain rfl := bS e3
  obtain rfl := bS e4
  obtain rfl := bS e5
  obtain rfl := oO e10
  obtain rfl := oO e11
  obtain rfl := oO e12
  obtain rfl := bS e13
  obtain rfl := bS e14
  obtain rfl := bS e15
  obtain rfl := bS e16
  obtain rfl := bS e17
  obtain rfl := bS e18
  obtain rfl := bS e19
  obtain rfl := oO e24
  obtain rfl := oO e25
  obtain rfl := oO e26
  obtain rfl := bS e27
  obtain rfl := bS e28
  obtain rfl := bS e33
  obtain rfl := bS e34
  obtain rfl := bS e35
  obtain rfl := bS e36
  obtain rfl := bS e37
  exact ⟨rfl, ⟨dt vV e0 c0 hB H, ⟨dt cJ e6 c6 hB H, dt cJ e7 c7 hB H, dt cJ e8 c8 hB H, dt cJ e9 c9 hB H⟩, ⟨dt cJ e20 c20 hB H, dt cJ e21 c21 hB H, dt cJ e22 c22 hB H, dt cJ e23 c23 hB H⟩, tM e29 c29 hB H, tM e30 c30 hB H, dt cJ e31 c31 hB H, dt vX e32 c32 hB H⟩⟩
 ·cases h
def yF (fv : Nat) (val : Bd → Bool) : SumF := fun f args mem _ =>
 if Nat.beq f fv = true then
  match args with
  | [.agg l] => match dBd mem l with
   | some (k, _, b) => some (k, .s (.at (.k (.bool (val b)))))
   | none => none
  | _ => none
 else none
theorem wN {P : Program} {ok : FuncId → Bool} {fv : Nat} {val : Bd → Bool} (hc : ∀ (H : Heap) (O : Go.Sx.Own) (v : qD) (b : Bd), BdR H O v b → RetO P fv [.agg (gv v b).toArray] H O (.bool (val b))) (H : Heap) : SumOk P ok H (yF fv val) := by
 intro f args mem h cs sv _ hs hck
 unfold yF at hs
 split at hs
 ·rename_i hf
  have hf : f = fv := Nat.eq_of_beq_eq_true hf
  subst hf
  split at hs
  ·rename_i l
   split at hs
   ·rename_i k v b hd
    simp only [Option.some.injEq, Prod.mk.injEq] at hs
    obtain ⟨rfl, rfl⟩ := hs
    refine ⟨kR _, fun F w next _ hm => ?_⟩
    obtain ⟨L, O, hB, hok, hM, hmod, hfr⟩ := hm
    obtain ⟨h1, h2⟩ := yp hd hck hB H
    have hret := Triple.frame (hc H L v b h2) O
    have e : (([S1.agg l] : List S1).map S1.den).toArray = [Value.agg (gv v b).toArray].toArray := by simp [S1.den, h1]
    rw [e]
    refine (hret w F (by simpa using hmod)).mono ?_
    rintro e' w' ⟨v', H', O', he, ⟨O'', q1, q2, q3⟩, hle, hm'⟩
    rw [q1, q3] at hm'
    exact ⟨v', he, q2, L, O, hB, hok, hM, by simpa using hm'.less hle, hfr⟩
   ·cases hs
  ·cases hs
 ·cases hs
end Go.Sx
namespace Go.Proofs.YtocfkcilcfojiaaGreatDoor
open Go Go.Sx
set_option maxRecDepth 100000
set_option maxHeartbeats 1000000
def sumNm : SumF := fun f args _ _ =>
 if Nat.beq f eD = true then
  match args with
  | [.at (.k (.string s))] => if (s.data.toList == wA || s.data.toList == yR) = true then some ([], .s (.at (.k (.bool true)))) else none
  | _ => none
 else none
theorem vd {ok : FuncId → Bool} {H : Heap} (hg : GlobOk kH H) : SumOk PP ok H sumNm := by
 intro f args mem h cs sv _ hs hck
 unfold sumNm at hs
 split at hs
 ·rename_i hf
  have hf := Nat.eq_of_beq_eq_true hf
  split at hs
  ·rename_i s
   split at hs
   ·rename_i hc
    simp only [Option.some.injEq, Prod.mk.injEq] at hs
    obtain ⟨rfl, rfl⟩ := hs
    refine ⟨kR _, fun F w next _ hm => ?_⟩
    obtain ⟨L, O, hB, hok, hM, hmod, hfr⟩ := hm
    have hret : RetO PP eD [.string s] H (L ++ O) (.bool true) := by
     have e : Value.string s = Str s.data.toList := by obtain ⟨d⟩ := s; rfl
     rw [e]
     rw [Bool.or_eq_true, beq_iff_eq, beq_iff_eq] at hc
     rcases hc with hc | hc
     ·rw [hc]; exact sj sr (by decide) (by decide) hg _
     ·rw [hc]; exact sj u5 (by decide) (by decide) hg _
    rw [hf]
    refine (hret w F (by simpa using hmod)).mono ?_
    rintro e' w' ⟨v', H', O', he, ⟨q2, q3⟩, hle, hm'⟩
    rw [q3] at hm'
    exact ⟨v', he, q2, L, O, hB, hok, hM, by simpa using hm'.less hle, hfr⟩
   ·cases hs
  ·cases hs
 ·cases hs
def mR : SumG := (tG 224 168 dz).or ((yF fH bD).toG.or sumNm.toG)
theorem qG {H : Heap} (hg : GlobOk kH H) : SumOkG PP cfgN.ok H mR :=
 sumSeq_ok.or ((SumOk.toG (wN (fun _ _ _ _ h => oV h) H)).or (SumOk.toG (vd hg)))
end Go.Proofs.YtocfkcilcfojiaaGreatDoor
namespace Go.Proofs.YtocfkcilcfojiaaGreatDoor
open Go Go.Sx
def q (n : Int) : At := .k (.int .i64 n)
def bt : At := .k (.bool true)
def bf : At := .k (.bool false)
def zs : At := .k (.slice none 0 0)
end Go.Proofs.YtocfkcilcfojiaaGreatDoor
