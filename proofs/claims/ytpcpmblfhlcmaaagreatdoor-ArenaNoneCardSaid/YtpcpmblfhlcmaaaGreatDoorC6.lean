/- Everything is in one place: the program's check. -/
import Derived.Test.YtpcpmblfhlcmaaaGreatDoorM
import Derived.Test.YtpcpmblfhlcmaaaGreatDoorFw3
import Derived.Test.YtpcpmblfhlcmaaaGreatDoorFw3
import Derived.Test.YtpcpmblfhlcmaaaGreatDoorFw3
namespace Go.Proofs.YtpcpmblfhlcmaaaGreatDoor
open Go Go.Sx
set_option maxRecDepth 100000
set_option maxHeartbeats 1000000
theorem gZ {P : Program} {v : Value} {H : Heap} {O X Ox : Go.Sx.Own} {Q : Value → Heap → Go.Sx.Own → Prop} (hO : O.Perm (X ++ Ox)) (h : Q v H Ox) : (Tree.ret v []).den P Q H O := by
 intro _
 exact ⟨H, Ox, (Ghost.perm hO).trans (Ghost.sub (List.sublist_append_right X Ox)), h⟩
theorem Bz : ∀ w, (zeroValue ec).run PP w = .ok (iV 0) w := by
 intro w
 have : (PP.info? ec).bind (·.zero) = some (iV 0) := by kernel_rfl
 simp only [Option.bind_eq_some_iff] at this
 obtain ⟨i, hi, hz⟩ := this
 simp [zeroValue, typeInfo, hi, hz]
theorem xj : PP.underlying aQ = some (.map ec ec) := by kernel_rfl
theorem xu : PP.underlying ec = some (.int .i64) := by kernel_rfl
theorem qd {m : rx} {mv : Value} {Om : Go.Sx.Own} (hm : OMap .i64 mv m Om) (r1 : Nat) (id player : Int) (H : Heap) (h1 : ((aP m id).getD (iV 0)).oneCell' = true) :
  Triple PP d6 [iV id, iV player, .pointer (some ⟨r1, 0, none⟩)] H ((r1, .cells #[mv] aQ (0, 0)) :: Om) fun v _ O' => v = .bool (aP m id).isNone ∧ ∃ Om', O' = (r1, .cells #[mv] aQ (0, 0)) :: Om' ∧ OMap .i64 mv (kY m id (iV player)) Om' := by
 refine jS (vs := [iV id, iV player, .pointer (some ⟨r1, 0, none⟩)]) (by kernel_rfl) ⟨rfl, rfl, rfl, trivial⟩ ?_
 simp only [gR]
 have hr : ∀ (H' : Heap) (X : Go.Sx.Own), Reads H' ((r1, .cells #[mv] aQ (0, 0)) :: X) (.pointer (some ⟨r1, 0, none⟩)) 1 [mv] := fun H' X => .inr ⟨⟨r1, 0, none⟩, #[mv], aQ, rfl, rfl, by simp, rfl, rfl⟩
 refine ba (hr _ _) rfl ⟨hm.one, trivial⟩ ?_
 refine jF xj xu Bz hm (fun p hp => List.mem_cons_of_mem _ hp) id h1 ?_
 refine ba (hr _ _) rfl ⟨hm.one, trivial⟩ ?_
 refine eL xj xu hm (O2 := [(r1, .cells #[mv] aQ (0, 0))]) List.perm_append_comm id (iV player) ?_
 intro r Om' hm' _
 refine ab _ (aI _) ?_
 intro _
 refine ⟨H, (r1, .cells #[mv] aQ (0, 0)) :: Om', Ghost.perm (show (Om' ++ [(r1, Obj.cells #[mv] aQ (0, 0))]).Perm ([(r1, Obj.cells #[mv] aQ (0, 0))] ++ Om') from List.perm_append_comm), ?_, Om', rfl, hm'⟩
 cases aP m id <;> rfl
theorem xU {t ty : TypeId} {m : rx} {mv : Value} {Om O : Go.Sx.Own} {H : Heap} {K : List Value → List (List Value) → Heap → Go.Sx.Own → Prop} (hm : OMap .i64 mv m Om) (hsub : ∀ p ∈ Om, p ∈ O) (hk : K [iV m.length] [] H O) (ht : (match PP.underlying t with | some (.map _ _) => true | _ => false) = true := by kernel_rfl) :
  er (fun H1 O1 R => b9 PP ((PrimOp.bi .len #[t] ty).sem [mv]) H1 O1 R) false [] [] .one K H O := by
 refine tD (v := iV m.length) ?_ rfl ⟨rfl, trivial⟩ hk
 intro w F hmo
 obtain ⟨r, es, clock, rfl, rfl, he⟩ := hm
 have hrow := (hmo.own (r, .map es clock) (List.mem_append_left _ (hsub _ (by simp)))).1
 have hg : (getObj r).run PP w = .ok (.map es clock) w := by simp [getObj, Sem.run, hrow]
 have hlen : es.size = m.length := by have := congrArg List.length he; simpa using this
 cases hu : PP.underlying t with
 | none => rw [hu] at ht; cases ht
 | some d =>
  cases d with
  | map kt et =>
   have : (Builtin.len_ #[t] ty #[.map (some r)]).run PP w = .ok (iV m.length) w := by
    simp only [Builtin.len_]
    simp [run_underlying hu, hg, hlen, goInt]
   simp only [PrimOp.sem, builtin, Sem.run_bind]
   rw [this]; rfl
  | _ => rw [hu] at ht; cases ht
theorem hE {lab key : Nat} {lv mv n0 : Value} {l : List Int} {pl : Int} {r1 : Nat} {H : Heap} {O Om Ox : Go.Sx.Own} {pre : List (Int × Int)} {Q : Value → Heap → Go.Sx.Own → Prop} {rest : List Value → Tree}
  {eqs : (List Value → Heap → Go.Sx.Own → Prop) → List Value → Value → List Value → List Value → List (List Value) → Value → Value → List (List Value × List Value)}
  (hl : RSl H Ox 1 lv (eY l)) (hn : n0 = iV l.length) (hm : OMap .i64 mv (cR pre) Om) (hO : O.Perm (Om ++ Ox)) (hnd : (pre.map (·.1)).Nodup)
  (heq : ∀ C a b c d e f g, Eqs (eqs C a b c d e f g))
  (bad : ∀ H', Heap.le H H' → ¬ ((pre ++ l.map fun i => (i, pl)).map (·.1)).Nodup → Q (.bool false) H' Ox)
  (good : ∀ H' O' Om', Heap.le H H' → ((pre ++ l.map fun i => (i, pl)).map (·.1)).Nodup → OMap .i64 mv (cR (pre ++ l.map fun i => (i, pl))) Om' → O'.Perm (Om' ++ Ox) → (rest [iV l.length, mv]).den PP Q H' O') :
  (Tree.loop lab key [iV 0, mv] fun C l3 =>
   .pure [] (.bin .lss .int) [(g l3 0), n0] fun v4 =>
   .br v4 (
    .pure [] (.idx 1) [lv, (g l3 0)] fun v5 =>
    .load [] v5 1 fun l6 =>
    .call false d6 [(g l6 0), iV pl, (.pointer (some ⟨r1, 0, none⟩))] [] [⟨r1, aQ, [(g l3 1)]⟩] .one fun l7 c7 =>
    .pure [] .not [(g l7 0)] fun v8 =>
    .br v8 (
     .ret (.bool false) []) (
     .pure [] (.bin .add .int) [(g l3 0), iV 1] fun v9 =>
     .cont lab C [v9, (g (c7.getD 0 []) 0)] (eqs C l3 v5 l6 l7 c7 v8 v9))) (rest l3)).den PP Q H O := by
 subst hn
 refine qa l.length (fun i xs H' O' => xs = [mv] ∧ Heap.le H H' ∧ ∃ Om', O'.Perm (Om' ++ Ox) ∧ OMap .i64 mv (cR (pre ++ (l.take i).map fun i => (i, pl))) Om' ∧ ((pre ++ (l.take i).map fun i => (i, pl)).map (·.1)).Nodup)
  ⟨rfl, Heap.le_refl H, Om, hO, by simpa using hm, by simpa using hnd⟩ ?_
 rintro i xs H' O' hi - - - ⟨rfl, hle, Om', hO', hm', hnd'⟩
 refine ab _ (bJ _ _) (au (fun hb => ?_) (fun hb => ?_))
 ·have hlt : i < l.length := by simpa using hb
  obtain ⟨a, h1, h2, _, h3, h4⟩ := ((hl.le hle).own (fun p hp => hO'.mem_iff.2 (List.mem_append_right Om' hp))).idx .i64 i [iV l[i]] (by simp [eY, hlt])
  refine ab _ h1 (ba h2 h3 h4 ?_)
  have hone : ((aP (cR (pre ++ (l.take i).map fun i => (i, pl))) l[i]).getD (iV 0)).oneCell' = true := by
   rw [bC]; cases bY (pre ++ (l.take i).map fun i => (i, pl)) l[i] <;> rfl
  have hc := qd hm' r1 l[i] pl H' hone
  intro _
  refine ⟨H', Om', Ox, _, Ghost.perm hO', hc, ?_⟩
  rintro v H2 O2 ⟨rfl, Om2, rfl, hm2⟩ hle2
  refine ⟨[_], [[mv]], Om2, rfl, ⟨rfl, trivial⟩, ⟨rfl, ⟨hm2.one, trivial⟩, trivial⟩, rfl, ?_⟩
  refine ab _ (aI _) (au (fun hb => ?_) (fun hb => ?_))
  ·have hin : l[i] ∈ (pre ++ (l.take i).map fun i => (i, pl)).map (·.1) := by
    rw [bC] at hb
    simp only [Bool.not_eq_true', Option.isNone_map] at hb
    rcases Classical.em (l[i] ∈ (pre ++ (l.take i).map fun i => (i, pl)).map (·.1)) with h | h
    ·exact h
    ·rw [ew.2 h] at hb; cases hb
   refine gZ (List.Perm.refl _) (bad H2 (Heap.le_trans hle hle2) ?_)
   intro hnd2
   have e : pre ++ l.map (fun i => (i, pl)) = (pre ++ (l.take i).map fun i => (i, pl)) ++ ((l[i], pl) :: (l.drop (i + 1)).map fun i => (i, pl)) := by
    rw [List.append_assoc, ← List.map_cons (f := fun i => (i, pl)), ← List.drop_eq_getElem_cons hlt, ← List.map_append, List.take_append_drop]
   rw [e, List.map_append, List.map_cons] at hnd2
   exact (List.nodup_append.1 hnd2).2.2 _ hin _ (List.mem_cons_self) rfl
  ·have hnin : l[i] ∉ (pre ++ (l.take i).map fun i => (i, pl)).map (·.1) := by
    rw [bC] at hb
    simp only [Bool.not_eq_false', Option.isNone_map, Option.isNone_iff_eq_none] at hb
    exact ew.1 hb
   have e : pre ++ (l.take (i + 1)).map (fun i => (i, pl)) = (pre ++ (l.take i).map fun i => (i, pl)) ++ [(l[i], pl)] := by
    rw [List.take_add_one, List.getElem?_eq_getElem hlt, List.map_append, List.append_assoc]; rfl
   refine ab _ (bX (by have := hl.lenB; simp [eY] at this; omega)) (jC (heq _ _ _ _ _ _ _ _) hlt ⟨rfl, Heap.le_trans hle hle2, Om2, List.Perm.refl _, ?_, ?_⟩)
   ·rw [e, ← qq hnin]; exact hm2
   ·rw [e, List.map_append, List.nodup_append]
    refine ⟨hnd', by simp, ?_⟩
    intro x hx y hy
    simp only [List.map_cons, List.map_nil, List.mem_singleton] at hy
    subst hy
    rintro rfl
    exact hnin hx
 ·have hie : i = l.length := by have : ¬ ((i : Int) < (l.length : Int)) := (by simpa using hb); omega
  subst hie
  rw [List.take_length] at hm' hnd'
  exact good H' O' Om' hle hnd' hm' hO'
theorem xZ (r : Nat) (o : Nat) (H : Heap) (O : Go.Sx.Own) : RetO PP kT [.pointer (some ⟨r, o, none⟩)] H O (.agg #[.pointer (some ⟨r, o + 5, none⟩), .pointer (some ⟨r, o + 6, none⟩), .pointer (some ⟨r, o + 7, none⟩), .pointer (some ⟨r, o + 8, none⟩)]) := by
 refine na (vs := [.pointer (some ⟨r, o, none⟩)]) (by kernel_rfl) ⟨rfl, trivial⟩ ?_
 simp only [kF]
 refine an fun r0 => fi rfl (fi rfl (fi rfl (fi rfl (fi rfl (fi rfl (fi rfl (fi rfl (ae (ae (ak ⟨?_, rfl⟩))))))))))
 simp only [g, List.getD_eq_getElem?_getD, List.getElem?_cons_zero, Option.getD_some, dq, aZ]
theorem AM {H : Heap} {O : Go.Sx.Own} {v : jK} {b : Bd} (h : BdR H O v b) : RetO PP jl [.agg (bq v b).toArray] H O (.bool (cB bG b)) := by
 refine mi (vs := bq v b) (by kernel_rfl) (bE h) ?_
 simp only [jg]
 have len1 : ∀ {H' : Heap} {O' : Go.Sx.Own} {w : Value} {l : List Int}, RSl H' O' 1 w (eY l) → af .len [w] = some (iV l.length) := fun h => by have := h.len; rwa [eY, List.length_map] at this
 have failB : ∀ {l : List (Int × Int)}, (∃ r, aL b = l ++ r) → ¬ (l.map (·.1)).Nodup → (Value.bool false : Value) = .bool (cB bG b) := by
  rintro l ⟨r, hr⟩ hn
  have : ¬ ((aL b).map (·.1)).Nodup := by
   rw [hr, List.map_append]
   exact fun h => hn (List.nodup_append.1 h).1
  simp only [cB, this, decide_false, Bool.false_and]
 refine an fun r0 => ov (kd := .i64) fun mv O1 hm => an fun r1 => ae (am (xZ r0 1 H _) rfl ⟨rfl, rfl, rfl, rfl, trivial⟩ fun H1 l1 => ?_)
 refine ai (ai (ai (ai (ae (ab _ (len1 h.s0.lib) ?_)))))
 replace h := h.le l1
 refine hE (mv := mv) (pre := []) (Ox := O) h.s0.lib rfl hm (List.Perm.refl _) (by simp) (by intros; simp [Eqs]) (fun H' _ hn => ⟨failB (l := [] ++ b.s0.lib.map fun i => (i, 0)) ⟨_, by simp [aL, eG]; rfl⟩ hn, rfl⟩) ?_
 intro H2 O2 Om2 l2 nd2 hm2 hO2
 replace h := h.le l2
 refine ae (ab _ (len1 h.s0.hand) ?_)
 refine hE (mv := mv) (pre := [] ++ b.s0.lib.map fun i => (i, 0)) (Ox := O) h.s0.hand rfl hm2 hO2 nd2 (by intros; simp [Eqs]) (fun H' _ hn => ⟨failB ⟨_, by simp [aL, eG]; rfl⟩ hn, rfl⟩) ?_
 intro H3 O3 Om3 l3 nd3 hm3 hO3
 replace h := h.le l3
 refine ae (ab _ (len1 h.s0.field) ?_)
 refine hE (mv := mv) (Ox := O) h.s0.field rfl hm3 hO3 nd3 (by intros; simp [Eqs]) (fun H' _ hn => ⟨failB ⟨_, by simp [aL, eG]; rfl⟩ hn, rfl⟩) ?_
 intro H4 O4 Om4 l4 nd4 hm4 hO4
 replace h := h.le l4
 refine ae (ab _ (len1 h.s0.grave) ?_)
 refine hE (mv := mv) (Ox := O) h.s0.grave rfl hm4 hO4 nd4 (by intros; simp [Eqs]) (fun H' _ hn => ⟨failB ⟨_, by simp [aL, eG]; rfl⟩ hn, rfl⟩) ?_
 intro H5 O5 Om5 l5 nd5 hm5 hO5
 replace h := h.le l5
 refine am (xZ r0 15 H5 _) rfl ⟨rfl, rfl, rfl, rfl, trivial⟩ fun H6 l6 => ?_
 replace h := h.le l6
 refine ai (ai (ai (ai (ae (ab _ (len1 h.s1.lib) ?_)))))
 refine hE (mv := mv) (Ox := O) h.s1.lib rfl hm5 hO5 nd5 (by intros; simp [Eqs]) (fun H' _ hn => ⟨failB ⟨_, by simp [aL, eG]; rfl⟩ hn, rfl⟩) ?_
 intro H7 O7 Om7 l7 nd7 hm7 hO7
 replace h := h.le l7
 refine ae (ab _ (len1 h.s1.hand) ?_)
 refine hE (mv := mv) (Ox := O) h.s1.hand rfl hm7 hO7 nd7 (by intros; simp [Eqs]) (fun H' _ hn => ⟨failB ⟨_, by simp [aL, eG]; rfl⟩ hn, rfl⟩) ?_
 intro H8 O8 Om8 l8 nd8 hm8 hO8
 replace h := h.le l8
 refine ae (ab _ (len1 h.s1.field) ?_)
 refine hE (mv := mv) (Ox := O) h.s1.field rfl hm8 hO8 nd8 (by intros; simp [Eqs]) (fun H' _ hn => ⟨failB ⟨_, by simp [aL, eG]; rfl⟩ hn, rfl⟩) ?_
 intro H9 O9 Om9 l9 nd9 hm9 hO9
 replace h := h.le l9
 refine ae (ab _ (len1 h.s1.grave) ?_)
 refine hE (mv := mv) (Ox := O) h.s1.grave rfl hm9 hO9 nd9 (by intros; simp [Eqs]) (fun H' _ hn => ⟨failB ⟨_, by simp [aL, eG]; rfl⟩ hn, rfl⟩) ?_
 intro H10 O10 Om10 l10 nd10 hm10 hO10
 replace h := h.le l10
 have hpre : ∃ pre, pre = eG b.s0 0 ++ eG b.s1 1 := ⟨_, rfl⟩
 obtain ⟨pre, hpe⟩ := hpre
 have e10 : ([] ++ b.s0.lib.map (fun i => (i, (0 : Int))) ++ b.s0.hand.map (fun i => (i, 0)) ++ b.s0.field.map (fun i => (i, 0)) ++ b.s0.grave.map (fun i => (i, 0)) ++ b.s1.lib.map (fun i => (i, 1)) ++ b.s1.hand.map (fun i => (i, 1)) ++ b.s1.field.map (fun i => (i, 1)) ++ b.s1.grave.map (fun i => (i, 1))) = pre := by
  rw [hpe]; simp [eG]
 rw [e10] at nd10 hm10
 have hpb : aL b = pre ++ dM b.stack := by rw [hpe]; simp [aL]
 refine ov (kd := .i64) fun cv Oc0 hc0 => ae (ab _ (ItsR.len h.stack) ?_)
 have stk := h.stack
 obtain ⟨rows, hrs, hrl, hit⟩ := stk
 refine qa b.stack.length (fun i xs H' O' => xs = [mv] ∧ Heap.le H10 H' ∧ ∃ Om Oc, O'.Perm (Om ++ (Oc ++ O)) ∧ OMap .i64 mv (cR (pre ++ dM (b.stack.take i))) Om ∧ OMap .i64 cv (cR (bh (b.stack.take i))) Oc ∧ ((pre ++ dM (b.stack.take i)).map (·.1)).Nodup)
  ⟨rfl, Heap.le_refl _, Om10, Oc0, ?_, by simpa [dM, dZ] using hm10, by simpa [bh, dZ, cR] using hc0, by simpa [dM, dZ] using nd10⟩ ?_
 ·exact ((hO10.append_left Oc0).trans (by rw [← List.append_assoc, ← List.append_assoc]; exact List.perm_append_comm.append_right O))
 rintro i xs H11 O11 hi - - - ⟨rfl, l11, Om, Oc, hO, hm, hc, hnd⟩
 refine ab _ (bJ _ _) (au (fun hb => ?_) (fun hb => ?_))
 ·have hlt : i < b.stack.length := by simpa using hb
  have hsub : ∀ p ∈ O, p ∈ O11 := fun p hp => hO.mem_iff.2 (by simp [hp])
  obtain ⟨a, h1, h2, _, h3, h4⟩ := ((hrs.le l11).own hsub).idx .i64 i rows[i] (by simp [hrl, hlt])
  obtain ⟨s, hrow, _⟩ := hit i rows[i] b.stack[i] (by simp [hrl, hlt]) (by simp [hlt])
  rw [hrow] at h2 h3 h4
  have etk : b.stack.take (i + 1) = b.stack.take i ++ [b.stack[i]] := by rw [List.take_add_one, List.getElem?_eq_getElem hlt]; rfl
  refine ab _ h1 (ba h2 h3 h4 (an fun r2 => ae (ae (ab _ (bJ _ _) (au (fun hb => ?_) (fun hb => ?_))))))
  ·
   have htr : b.stack[i].trig < 0 := by simpa using hb
   have eow : dM (b.stack.take (i + 1)) = dM (b.stack.take i) ++ [(b.stack[i].id, b.stack[i].player)] := by
    rw [etk, hJ, wX htr]
   have eca : bh (b.stack.take (i + 1)) = bh (b.stack.take i) ++ [(b.stack[i].id, b.stack[i].card)] := by
    rw [etk, km, vN htr]
   have hone : ((aP (cR (pre ++ dM (b.stack.take i))) b.stack[i].id).getD (iV 0)).oneCell' = true := by
    rw [bC]; cases bY (pre ++ dM (b.stack.take i)) b.stack[i].id <;> rfl
   refine ae (ae ?_)
   have hcall := qd hm r1 b.stack[i].id b.stack[i].player H11 hone
   intro _
   refine ⟨H11, Om, Oc ++ O, _, Ghost.perm hO, hcall, ?_⟩
   rintro w H12 O12 ⟨rfl, Om2, rfl, hm2⟩ l12
   refine ⟨[_], [[mv]], Om2, rfl, ⟨rfl, trivial⟩, ⟨rfl, ⟨hm2.one, trivial⟩, trivial⟩, rfl, ?_⟩
   refine ab _ (aI _) (au (fun hb => ?_) (fun hb => ae (ae ?_)))
   ·have hin : b.stack[i].id ∈ (pre ++ dM (b.stack.take i)).map (·.1) := by
     rw [bC] at hb
     simp only [Bool.not_eq_true', Option.isNone_map] at hb
     rcases Classical.em (b.stack[i].id ∈ (pre ++ dM (b.stack.take i)).map (·.1)) with h | h
     ·exact h
     ·rw [ew.2 h] at hb; cases hb
    refine gZ (X := Om2 ++ Oc) (by rw [List.append_assoc]) ⟨failB (l := pre ++ dM (b.stack.take (i + 1))) ⟨dM (b.stack.drop (i + 1)), ?_⟩ ?_, rfl⟩
    ·rw [hpb, List.append_assoc, ← hJ, List.take_append_drop]
    ·rw [eow, ← List.append_assoc, List.map_append]
     intro hn
     exact (List.nodup_append.1 hn).2.2 _ hin _ (by simp) rfl
   ·have hnin : b.stack[i].id ∉ (pre ++ dM (b.stack.take i)).map (·.1) := by
     rw [bC] at hb
     simp only [Bool.not_eq_false', Option.isNone_map, Option.isNone_iff_eq_none] at hb
     exact ew.1 hb
    have hninc : b.stack[i].id ∉ (bh (b.stack.take i)).map (·.1) := by
     intro hin
     refine hnin ?_
     rw [List.map_append]
     refine List.mem_append_right _ ?_
     simpa [bh, dM] using hin
    refine eL xj xu hc (O2 := Om2 ++ O) ?_ b.stack[i].id (iV b.stack[i].card) ?_
    ·rw [← List.append_assoc, ← List.append_assoc]
     exact List.perm_append_comm.append_right O
    intro w2 Oc2 hc2 _
    refine ab _ (bX (by have := hrs.lenB; omega)) (jC (by simp [Eqs]) hlt ⟨rfl, Heap.le_trans l11 l12, Om2, Oc2, ?_, ?_, ?_, ?_⟩)
    ·rw [← List.append_assoc, ← List.append_assoc]
     exact List.perm_append_comm.append_right O
    ·rw [eow, ← List.append_assoc, ← qq hnin]; exact hm2
    ·rw [eca, ← qq hninc]; exact hc2
    ·rw [eow, ← List.append_assoc, List.map_append, List.nodup_append]
     refine ⟨hnd, by simp, ?_⟩
     intro x hx y hy
     simp only [List.map_cons, List.map_nil, List.mem_singleton] at hy
     subst hy
     rintro rfl
     exact hnin hx
  ·have htr : ¬ b.stack[i].trig < 0 := by simpa using hb
   have eow : dM (b.stack.take (i + 1)) = dM (b.stack.take i) := by
    rw [etk, hJ, vt htr, List.append_nil]
   have eca : bh (b.stack.take (i + 1)) = bh (b.stack.take i) := by
    rw [etk, km, ud htr, List.append_nil]
   refine ab _ (bX (by have := hrs.lenB; omega)) (jC (by simp [Eqs]) hlt ⟨rfl, l11, Om, Oc, hO, ?_, ?_, ?_⟩)
   ·rw [eow]; exact hm
   ·rw [eca]; exact hc
   ·rw [eow]; exact hnd
 ·have hie : i = b.stack.length := by
   have : ¬ ((i : Int) < (b.stack.length : Int)) := by simpa using hb
   omega
  subst hie
  rw [List.take_length] at hm hc hnd
  rw [← hpb] at hm hnd
  replace h := h.le l11
  have lo := h.objs.len
  rw [List.length_map] at lo
  have hsub : ∀ p ∈ O, p ∈ O11 := fun p hp => hO.mem_iff.2 (by simp [hp])
  have hsubm : ∀ p ∈ Om, p ∈ O11 := fun p hp => hO.mem_iff.2 (by simp [hp])
  have hsubc : ∀ p ∈ Oc, p ∈ O11 := fun p hp => hO.mem_iff.2 (by simp [hp])
  have hpl : cB bG b = (fQ bG (aL b) (bh b.stack) none b.objs && decide ((aL b).length = b.objs.length)) := by
   simp only [cB, hnd, decide_true, Bool.true_and]
  refine ae (ab _ lo ?_)
  refine cT b.objs.length (fun i H' O' => O' = O11 ∧ Heap.le H11 H' ∧ fQ bG (aL b) (bh b.stack) none b.objs = fQ bG (aL b) (bh b.stack) (jV b.objs i) (b.objs.drop i)) ⟨rfl, Heap.le_refl _, by simp [jV]⟩ ?_
  rintro i H12 O12 hi - ⟨rfl, l12, hor⟩
  refine ab _ (bJ _ _) (au (fun hb => ?_) (fun hb => ?_))
  ·have hlt : i < b.objs.length := by simpa using hb
   obtain ⟨a, h1, h2, _, h3, h4⟩ := ((h.objs.le l12).own hsub).idx .i64 i (Ob.row b.objs[i]) (by simp [hlt])
   refine ab _ h1 (ba h2 h3 h4 (an fun r3 => ae (ae (ae ?_))))
   have hone : ((aP (cR (aL b)) b.objs[i].id).getD (iV 0)).oneCell' = true := by
    rw [bC]; cases bY (aL b) b.objs[i].id <;> rfl
   have honec : ((aP (cR (bh b.stack)) b.objs[i].id).getD (iV 0)).oneCell' = true := by
    rw [bC]; cases bY (bh b.stack) b.objs[i].id <;> rfl
   refine jF xj xu Bz hm hsubm _ hone (ae (jF xj xu Bz hc hsubc _ honec (ae ?_)))
   have g1 : (aP (cR (aL b)) b.objs[i].id).getD (iV 0) = iV ((bY (aL b) b.objs[i].id).getD 0) := by rw [bC]; cases bY (aL b) b.objs[i].id <;> rfl
   have g2 : (aP (cR (bh b.stack)) b.objs[i].id).getD (iV 0) = iV ((bY (bh b.stack) b.objs[i].id).getD 0) := by rw [bC]; cases bY (bh b.stack) b.objs[i].id <;> rfl
   have g3 : (aP (cR (aL b)) b.objs[i].id).isSome = !(bY (aL b) b.objs[i].id).isNone := by rw [bC]; cases bY (aL b) b.objs[i].id <;> rfl
   have g4 : (aP (cR (bh b.stack)) b.objs[i].id).isSome = (bY (bh b.stack) b.objs[i].id).isSome := by rw [bC]; cases bY (bh b.stack) b.objs[i].id <;> rfl
   rw [g1, g2, g3, g4]
   refine am (pg b.objs[i] H12 O12) rfl ⟨rfl, trivial⟩ fun H13 l13 => ?_
   have l13' := Heap.le_trans l12 l13
   have hp : ∃ (pv : Value) (x : Int), pv.oneCell' = true ∧ (0 < i → af (.idx 12) [v.o, iV ((i : Int) - 1)] = some pv ∧ sD pv = true ∧ Reads H13 O12 pv 1 [iV x]) ∧ hG (jV b.objs i) b.objs[i].id = (decide ((i : Int) > 0) && decide (x ≥ b.objs[i].id)) := by
    rcases Nat.eq_zero_or_pos i with rfl | hpos
    ·exact ⟨iV 0, 0, rfl, fun h => absurd h (Nat.lt_irrefl 0), by simp [jV, hG]⟩
    ·obtain ⟨j, rfl⟩ : ∃ j, i = j + 1 := ⟨i - 1, by omega⟩
     have hj : j < b.objs.length := by omega
     obtain ⟨a, k1, k2, k3, _⟩ := ((h.objs.le l13').own hsub).idx .i64 j (Ob.row b.objs[j]) (by simp [hj])
     refine ⟨.pointer (some a), b.objs[j].id, rfl, fun _ => ⟨?_, rfl, ?_⟩, ?_⟩
     ·have e : ((j + 1 : Nat) : Int) - 1 = (j : Int) := by omega
      rw [e]; exact k1
     ·have := k3 0 1 (by omega)
      have e : dq (.pointer (some a)) 0 = .pointer (some a) := by simp [dq, Addr.add]
      rwa [e] at this
     ·rw [rY hj]
      have : ((j + 1 : Nat) : Int) > 0 := by omega
      simp only [hG, this, decide_true, Bool.true_and]
   obtain ⟨pv, x, hpone, hpv, hprev⟩ := hp
   have hiB : (i : Int) + 1 < 9223372036854775808 := by have := h.objs.lenB; simp at this; omega
   have hsub1 : af (.bin .sub .int) [iV i, iV 1] = some (iV ((i : Int) - 1)) := by
    simp only [af, ct, bW, if_true]
    rw [jo (by omega) (by omega)]
   have hon : ∀ {u : Bool}, On [((.bool (decide ((i : Int) > 0)) : Value), true), (.bool u, false)] → 0 < i := fun h => by
    have := h.1
    simp at this
    omega
   refine ab _ (aI _) (ai (ab _ (ij _ _) ?_))
   repeat (first | refine ae ?_ | refine ai ?_ | refine ab _ hsub1 ?_)
   refine ⟨pv, fun ho => (hpv (hon ho)).1, .inr hpone, ?_⟩
   refine ⟨fun ho => (hpv (hon ho)).2.1, ?_⟩
   refine ai (ai (ai (ai ?_)))
   refine ⟨[iV x], rfl, ⟨rfl, trivial⟩, fun ho => (hpv (hon ho)).2.2, ?_⟩
   repeat (first | refine ae ?_ | refine ai ?_ | refine an fun _ => ?_ | refine ab _ (bJ _ _) ?_ | refine ab _ (ij _ _) ?_ | refine ab _ (nR _ _) ?_ | refine ab _ (ik _ _) ?_ | refine ab _ (fU _ _) ?_ | refine ab _ (sn _ _) ?_ | refine ab _ (dt _ _) ?_ | refine ab _ (bQ _ _) ?_ | refine ab _ (aI _) ?_ | refine ab _ (yl _ _) ?_ | refine ab _ (yj _ _) ?_)
   have hbad : py (aL b) (bh b.stack) (jV b.objs i) (bG b.objs[i]) b.objs[i] =
     ((((!bG b.objs[i] || (decide ((i : Int) > 0) && decide (x ≥ b.objs[i].id))) || (bY (aL b) b.objs[i].id).isNone) || ((bY (aL b) b.objs[i].id).getD 0 != b.objs[i].owner)) || ((bY (bh b.stack) b.objs[i].id).isSome && ((bY (bh b.stack) b.objs[i].id).getD 0 != b.objs[i].card))) := by
    unfold py; rw [hprev]
   have hstep : fQ bG (aL b) (bh b.stack) (jV b.objs i) (b.objs.drop i) = (!py (aL b) (bh b.stack) (jV b.objs i) (bG b.objs[i]) b.objs[i] && fQ bG (aL b) (bh b.stack) (some b.objs[i].id) (b.objs.drop (i + 1))) := by
    rw [List.drop_eq_getElem_cons hlt, fQ]
   refine au (fun hb => ?_) (fun hb => ?_)
   ·refine gZ (X := Om ++ Oc) (by rw [List.append_assoc]; exact hO) ⟨?_, rfl⟩
    rw [hpl, hor, hstep, hbad]
    simp only [Bool.not_not] at hb
    rw [hb]; rfl
   ·refine ab _ (bX (by omega)) (cK (by simp [Eqs]) hlt ⟨rfl, l13', ?_⟩)
    simp only [Bool.not_not] at hb
    rw [hor, hstep, hbad, hb, rY hlt]; rfl
  ·have hie : i = b.objs.length := by
    have : ¬ ((i : Int) < (b.objs.length : Int)) := by simpa using hb
    omega
   subst hie
   rw [List.drop_length] at hor
   refine ae ?_
   refine xU hm hsubm (ae (ab _ lo (ab _ (fU _ _) (gZ (X := Om ++ Oc) (by rw [List.append_assoc]; exact hO) ⟨?_, rfl⟩))))
   rw [hpl, hor]
   simp only [fQ, Bool.true_and, cR, List.length_map]
   congr 1
   rw [Bool.eq_iff_iff]
   simp only [beq_iff_eq, decide_eq_true_eq]
   omega
theorem wb : ∀ w, (zeroValue uk).run PP w = .ok (.bool false) w := by
 intro w
 have : (PP.info? uk).bind (·.zero) = some (.bool false) := by kernel_rfl
 simp only [Option.bind_eq_some_iff] at this
 obtain ⟨i, hi, hz⟩ := this
 simp [zeroValue, typeInfo, hi, hz]
theorem vC : PP.underlying bj = some (.map ec uk) := by kernel_rfl
theorem Bg (a : Int) : af .neg [iV a] = some (iV (IntKind.i64.wrap (0 - a))) := rfl
theorem pV {lab1 key1 lab2 key2 : Nat} {fo ft av bv : Value} {own other att : List Int} {bl : List Bl} {H : Heap} {O : Go.Sx.Own} {Q : Value → Heap → Go.Sx.Own → Prop} {r0 : Nat}
  {eqs1 : List Value → Value → List (List Value × List Value)}
  {eqs2 : List Value → Value → List (List Value × List Value)}
  (ho : RSl H O 1 fo (eY own)) (ht : RSl H O 1 ft (eY other)) (ha : RSl H O 1 av (eY att)) (hb : RSl H O 2 bv (bl.map Bl.row)) (hpo : ∀ x ∈ own, 0 < x) (hpt : ∀ x ∈ other, 0 < x ∧ x ≤ 500)
  (heq1 : ∀ a b, Eqs (eqs1 a b)) (heq2 : ∀ a b, Eqs (eqs2 a b))
  (hQ : ∀ H', Heap.le H H' → Q (.bool (jy own other att bl)) H' O) :
  (Tree.prim (.makeMap bj false) [] [] [] .one fun l1 _ =>
   .chk (.eqN r0 r0) <|
   .pure [] .len [av] fun v2 =>
   .loop lab1 key1 [(.int .i64 0)] fun C23 l3 =>
    .pure [] (.bin .lss .int) [(g l3 0), v2] fun v4 =>
    .br v4 (
     .pure [] (.idx 1) [av, (g l3 0)] fun v5 =>
     .load [] v5 1 fun l6 =>
     .prim (.lookup bj false) [(g l1 0), (g l6 0)] [] [] .one fun l7 _ =>
     .br (g l7 0) (
      .ret (.bool false) []) (
      .call false aM [fo, (g l6 0)] [] [] .one fun l8 _ =>
      .pure [] .not [(g l8 0)] fun v9 =>
      .br v9 (
       .ret (.bool false) []) (
       .prim (.mapUpdate bj) [(g l1 0), (g l6 0), (.bool true)] [] [] .one fun l10 _ =>
       .pure [] (.bin .add .int) [(g l3 0), (.int .i64 1)] fun v11 =>
       .cont lab1 C23 [v11] (eqs1 l1 v2)))) (
     .chk (.eqN r0 r0) <|
     .pure [] .len [bv] fun v12 =>
     .loop lab2 key2 [(.int .i64 0)] fun C29 l13 =>
      .pure [] (.bin .lss .int) [(g l13 0), v12] fun v14 =>
      .br v14 (
       .pure [] (.idx 2) [bv, (g l13 0)] fun v15 =>
       .load [] v15 2 fun l16 =>
       .newbox fun r1 =>
       .chk (.eqN r1 r1) <|
       .chk (.eqN r1 r1) <|
       .prim (.lookup bj false) [(g l1 0), (g l16 1)] [] [] .one fun l17 _ =>
       .pure [] .not [(g l17 0)] fun v18 =>
       .br v18 (
        .ret (.bool false) []) (
        .chk (.eqN r1 r1) <|
        .pure [] .neg [(g l16 0)] fun v19 =>
        .prim (.lookup bj false) [(g l1 0), v19] [] [] .one fun l20 _ =>
        .br (g l20 0) (
         .ret (.bool false) []) (
         .chk (.eqN r0 r0) <|
         .chk (.eqN r1 r1) <|
         .call false aM [av, (g l16 1)] [] [] .one fun l21 _ =>
         .pure [] .not [(g l21 0)] fun v22 =>
         .br v22 (
          .ret (.bool false) []) (
          .chk (.eqN r1 r1) <|
          .call false aM [ft, (g l16 0)] [] [] .one fun l23 _ =>
          .pure [] .not [(g l23 0)] fun v24 =>
          .br v24 (
           .ret (.bool false) []) (
           .chk (.eqN r1 r1) <|
           .chk (.eqN r1 r1) <|
           .pure [] .neg [(g l16 0)] fun v25 =>
           .prim (.mapUpdate bj) [(g l1 0), (g l16 1), (.bool false)] [] [] .one fun l26 _ =>
           .prim (.mapUpdate bj) [(g l1 0), v25, (.bool true)] [] [] .one fun l27 _ =>
           .pure [] (.bin .add .int) [(g l13 0), (.int .i64 1)] fun v28 =>
           .cont lab2 C29 [v28] (eqs2 l1 v12)))))) (
       .ret (.bool true) []))).den PP Q H O := by
 have la := ha.len
 have lb := hb.len
 rw [eY, List.length_map] at la
 rw [List.length_map] at lb
 refine ov (kd := .i64) fun mv Om0 hm0 => ae (ab _ la ?_)
 refine cT att.length (fun i H' O' => Heap.le H H' ∧ ∃ m Om, O'.Perm (Om ++ O) ∧ OMap .i64 mv m Om ∧ (∀ k, (aP m k).getD (.bool false) = .bool (ge (att.take i) [] [] k)) ∧ (att.take i).Nodup ∧ ∀ x ∈ att.take i, x ∈ own)
  ⟨Heap.le_refl H, [], Om0, List.Perm.refl _, hm0, fun k => by simp [aP, ge], by simp, by simp⟩ ?_
 rintro i H1 O1 hi - ⟨l1, m, Om, hO, hm, hs, hnd, hall⟩
 have hsubO : ∀ p ∈ O, p ∈ O1 := fun p hp => hO.mem_iff.2 (List.mem_append_right Om hp)
 have hsubM : ∀ p ∈ Om, p ∈ O1 := fun p hp => hO.mem_iff.2 (List.mem_append_left O hp)
 refine ab _ (bJ _ _) (au (fun hlt => ?_) (fun hge => ?_))
 ·have hlt : i < att.length := by simpa using hlt
  obtain ⟨a, h1, h2, _, h3, h4⟩ := ((ha.le l1).own hsubO).idx .i64 i [iV att[i]] (by simp [eY, hlt])
  refine ab _ h1 (ba h2 h3 h4 ?_)
  refine ir vC xu wb hm hsubM att[i] (by show ((aP m att[i]).getD (.bool false)).oneCell' = true; rw [hs]; rfl) ?_
  show Tree.den PP Q (.br ((aP m att[i]).getD (.bool false)) _ _) H1 O1
  rw [hs]
  have etk : att.take (i + 1) = att.take i ++ [att[i]] := by rw [List.take_add_one, List.getElem?_eq_getElem hlt]; rfl
  refine au (fun hin => ?_) (fun hnin => ?_)
  ·refine gZ hO ?_
   have : ¬ att.Nodup := by
    intro hn
    have hin : att[i] ∈ att.take i := by simpa [ge] using hin
    have hn2 : (att.take (i + 1)).Nodup := hn.sublist (List.take_sublist _ _)
    rw [etk, List.nodup_append] at hn2
    exact hn2.2.2 _ hin _ (by simp) rfl
   have := hQ H1 l1
   simpa [jy, ‹¬ att.Nodup›] using this
  ·refine am (bN ((ho.le l1).own hsubO) att[i]) rfl ⟨rfl, trivial⟩ fun H2 l2 => ab _ (aI _) (au (fun hc => ?_) (fun hc => ?_))
   ·refine gZ hO ?_
    have hf : (att.all fun x => own.contains x) = false := by
     rw [Bool.eq_false_iff]
     intro hh
     have := List.all_eq_true.1 hh att[i] (List.getElem_mem hlt)
     rw [this] at hc; cases hc
    have := hQ H2 (Heap.le_trans l1 l2)
    simpa only [jy, hf, Bool.false_and, Bool.and_false] using this
   ·refine eL vC xu hm hO att[i] (.bool true) ?_
    intro w Om2 hm2 _
    refine ab _ (bX (by have := ha.lenB; simp [eY] at this; omega)) (cK (heq1 _ _) hlt ⟨Heap.le_trans l1 l2, _, Om2, List.Perm.refl _, hm2, ?_, ?_, ?_⟩)
    ·intro k
     rw [nO]
     by_cases hk : k = att[i]
     ·rw [if_pos hk, etk]
      have : ge (att.take i ++ [att[i]]) [] [] k = true := by simp only [ge, decide_eq_true_eq, List.mem_append, List.mem_singleton]; exact .inl ⟨.inr hk, by simp⟩
      rw [this]; rfl
     ·rw [if_neg hk, hs, etk]
      congr 1
      simp only [ge, List.mem_append, List.mem_singleton, hk, or_false]
    ·rw [etk, List.nodup_append]
     refine ⟨hnd, by simp, ?_⟩
     intro x hx y hy
     simp only [List.mem_singleton] at hy
     subst hy
     rintro rfl
     simp [ge] at hnin
     exact hnin hx
    ·rw [etk]
     intro x hx
     rcases List.mem_append.1 hx with hx | hx
     ·exact hall x hx
     ·simp only [List.mem_singleton] at hx
      subst hx
      simpa using hc
 ·have hie : i = att.length := by
   have : ¬ ((i : Int) < (att.length : Int)) := by simpa using hge
   omega
  subst hie
  rw [List.take_length] at hs hnd hall
  have hfb : jy own other att bl = ui att other [] [] bl := by
   have : (att.all fun x => own.contains x) = true := by
    rw [List.all_eq_true]
    intro x hx
    simpa using hall x hx
   simp only [jy, hnd, decide_true, this, Bool.true_and]
  refine ae (ab _ lb ?_)
  refine cT bl.length (fun i H' O' => Heap.le H1 H' ∧ ∃ m Om ua ub, O'.Perm (Om ++ O) ∧ OMap .i64 mv m Om ∧ (∀ k, (aP m k).getD (.bool false) = .bool (ge att ua ub k)) ∧ (∀ x ∈ ub, 0 < x) ∧ ui att other [] [] bl = ui att other ua ub (bl.drop i))
   ⟨Heap.le_refl H1, m, Om, [], [], hO, hm, hs, by simp, by simp⟩ ?_
  rintro i H2 O2 hi - ⟨l2, m, Om, ua, ub, hO, hm, hs, hub, hgo⟩
  have l2' := Heap.le_trans l1 l2
  have hsubO : ∀ p ∈ O, p ∈ O2 := fun p hp => hO.mem_iff.2 (List.mem_append_right Om hp)
  have hsubM : ∀ p ∈ Om, p ∈ O2 := fun p hp => hO.mem_iff.2 (List.mem_append_left O hp)
  refine ab _ (bJ _ _) (au (fun hlt => ?_) (fun hge => ?_))
  ·have hlt : i < bl.length := by simpa using hlt
   obtain ⟨a, h1, h2, _, h3, h4⟩ := ((hb.le l2').own hsubO).idx .i64 i (Bl.row bl[i]) (by simp [hlt])
   rw [List.drop_eq_getElem_cons hlt, ui] at hgo
   generalize bl[i] = x at hgo h2 h3 h4
   have hone : ∀ k, ((aP m k).getD (.bool false)).oneCell' = true := fun k => by rw [hs]; rfl
   have fin : ∀ H', Heap.le H H' → ((!ua.contains x.attacker && att.contains x.attacker && (!ub.contains x.blocker && other.contains x.blocker)) = false) → Q (.bool false) H' O := by
    intro H' hl hf
    have := hQ H' hl
    rwa [hfb, hgo, hf, Bool.false_and] at this
   refine ab _ h1 (ba h2 h3 h4 (an fun r1 => ae (ae ?_)))
   refine ir vC xu wb hm hsubM x.attacker (hone _) ?_
   show Tree.den PP Q (.pure [] .not [(aP m x.attacker).getD (.bool false)] _) H2 O2
   rw [hs]
   refine ab _ (aI _) (au (fun h1 => gZ hO (fin H2 l2' ?_)) (fun h1 => ae (ab _ (Bg _) ?_)))
   ·simp only [Bool.not_eq_true', ge, decide_eq_false_iff_not, not_or, not_and, Decidable.not_not] at h1
    by_cases hin : x.attacker ∈ att
    ·have := h1.1 hin
     simp [this]
    ·simp [hin]
   refine ir vC xu wb hm hsubM _ (hone _) ?_
   show Tree.den PP Q (.br ((aP m (IntKind.i64.wrap (0 - x.blocker))).getD (.bool false)) _ _) H2 O2
   rw [hs]
   refine au (fun h2 => gZ hO (fin H2 l2' ?_)) (fun h2 => ae (ae ?_))
   ·by_cases hin : x.blocker ∈ other
    ·have hr := hpt _ hin
     rw [jo (by omega) (by omega)] at h2
     simp only [ge, decide_eq_true_eq, Int.zero_sub, Int.neg_neg] at h2
     rcases h2 with ⟨h2, _⟩ | h2
     ·have := hpo _ (hall _ h2); omega
     ·simp [h2]
    ·simp [hin]
   refine am (bN ((ha.le l2').own hsubO) x.attacker) rfl ⟨rfl, trivial⟩ fun H3 l3 => ab _ (aI _) (au (fun h3 => gZ hO (fin H3 (Heap.le_trans l2' l3) ?_)) (fun h3 => ae ?_))
   ·simp only [Bool.not_eq_true'] at h3
    rw [h3]; simp
   refine am (bN ((ht.le (Heap.le_trans l2' l3)).own hsubO) x.blocker) rfl ⟨rfl, trivial⟩ fun H4 l4 => ab _ (aI _) (au (fun h4 => gZ hO (fin H4 (Heap.le_trans l2' (Heap.le_trans l3 l4)) ?_)) (fun h4 => ae (ae (ab _ (Bg _) ?_))))
   ·simp only [Bool.not_eq_true'] at h4
    rw [h4]; simp
   simp only [Bool.not_eq_false'] at h1 h3 h4
   have hain : x.attacker ∈ att := by simpa using h3
   have hbin : x.blocker ∈ other := by simpa using h4
   have hr := hpt _ hbin
   have hapos := hpo _ (hall _ hain)
   rw [jo (by omega) (by omega)] at h2 ⊢
   rw [Int.zero_sub] at h2 ⊢
   refine eL vC xu hm hO x.attacker (.bool false) ?_
   intro w Om2 hm2 _
   refine eL vC xu hm2 (List.Perm.refl _) (-x.blocker) (.bool true) ?_
   intro w Om3 hm3 _
   refine ab _ (bX (by have := hb.lenB; simp at this; omega)) (cK (heq2 _ _) hlt ⟨Heap.le_trans l2 (Heap.le_trans l3 l4), _, Om3, x.attacker :: ua, x.blocker :: ub, List.Perm.refl _, hm3, y2 hs hub hapos hr.1, ?_, ?_⟩)
   ·intro y hy
    rcases List.mem_cons.1 hy with rfl | hy
    ·exact hr.1
    ·exact hub y hy
   ·rw [hgo]
    have hua : ua.contains x.attacker = false := by
     simp only [ge, decide_eq_true_eq] at h1
     rcases h1 with ⟨_, h1⟩ | h1
     ·simpa using h1
     ·have := hub _ h1; omega
    have hubn : ub.contains x.blocker = false := by
     simp only [ge, decide_eq_false_iff_not, not_or, Int.neg_neg] at h2
     simpa using h2.2
    rw [hua, h3, hubn, h4]; rfl
  ·have hie : i = bl.length := by
    have : ¬ ((i : Int) < (bl.length : Int)) := by simpa using hge
    omega
   subst hie
   rw [List.drop_length] at hgo
   refine gZ hO ?_
   have := hQ H2 l2'
   rwa [hfb, hgo, ui] at this
theorem uH {α : Type} [DecidableEq α] : ∀ {l r : List α}, l.Nodup → (∀ x ∈ l, x ∈ r) → l.length ≤ r.length
 | [], _, _, _ => Nat.zero_le _
 | a :: l, r, hn, hs => by
  rw [List.nodup_cons] at hn
  have har : a ∈ r := hs a (by simp)
  have h1 := uH (r := r.erase a) hn.2 fun x hx => by
   have : x ≠ a := fun e => hn.1 (e ▸ hx)
   exact (List.mem_erase_of_ne this).2 (hs x (by simp [hx]))
  rw [List.length_erase_of_mem har] at h1
  have := List.length_pos_of_mem har
  simp only [List.length_cons]; omega
theorem vu {α : Type} [DecidableEq α] {l r : List α} (hn : l.Nodup) (hs : ∀ x ∈ l, x ∈ r) (hl : r.length ≤ l.length) : ∀ x ∈ r, x ∈ l := by
 intro x hx
 rcases Classical.em (x ∈ l) with h | h
 ·exact h
 ·have := uH (l := x :: l) (r := r) (List.nodup_cons.2 ⟨h, hn⟩) (fun y hy => by
   rcases List.mem_cons.1 hy with rfl | hy
   ·exact hx
   ·exact hs y hy)
  simp only [List.length_cons] at this; omega
theorem sf {val : Ob → Bool} {ps cs : List (Int × Int)} : ∀ {l : List Ob} {prev : Option Int}, fQ val ps cs prev l = true →
  (∀ o ∈ l, val o = true ∧ (bY ps o.id).isSome = true ∧ ∀ p, prev = some p → p < o.id) ∧ (l.map (·.id)).Nodup
 | [], _, _ => ⟨by simp, by simp⟩
 | o :: r, prev, h => by
  simp only [fQ, py, Bool.and_eq_true, Bool.not_eq_true', Bool.or_eq_false_iff, Bool.not_eq_false'] at h
  obtain ⟨⟨⟨⟨⟨h1, h2⟩, h3⟩, _⟩, _⟩, h6⟩ := h
  obtain ⟨k1, k2⟩ := sf h6
  have hp : ∀ p, prev = some p → p < o.id := by
   rintro p rfl
   simp only [hG, decide_eq_false_iff_not] at h2
   omega
  refine ⟨?_, ?_⟩
  ·intro x hx
   rcases List.mem_cons.1 hx with rfl | hx
   ·refine ⟨h1, ?_, hp⟩
    cases hl : bY ps x.id with
    | none => rw [hl] at h3; cases h3
    | some v => rfl
   ·obtain ⟨a1, a2, a3⟩ := k1 x hx
    exact ⟨a1, a2, fun p e => by have := a3 _ rfl; have := hp p e; omega⟩
  ·rw [List.map_cons, List.nodup_cons]
   refine ⟨?_, k2⟩
   intro hm
   obtain ⟨x, hx, e⟩ := List.mem_map.1 hm
   have := (k1 x hx).2.2 _ rfl
   omega
theorem vo {val : Ob → Bool} {b : Bd} (h : cB val b = true) : ∀ x ∈ (aL b).map (·.1), ∃ o ∈ b.objs, o.id = x ∧ val o = true := by
 simp only [cB, Bool.and_eq_true, decide_eq_true_eq] at h
 obtain ⟨_, h2, h3⟩ := h
 obtain ⟨k1, k2⟩ := sf h2
 intro x hx
 have := vu (l := b.objs.map (·.id)) (r := (aL b).map (·.1)) k2 (fun y hy => by
  obtain ⟨o, ho, rfl⟩ := List.mem_map.1 hy
  have := (k1 o ho).2.1
  rcases Classical.em (o.id ∈ (aL b).map (·.1)) with h | h
  ·exact h
  ·rw [ew.2 h] at this; cases this) (by simp [h3]) x hx
 obtain ⟨o, ho, rfl⟩ := List.mem_map.1 this
 exact ⟨o, ho, rfl, (k1 o ho).1⟩
theorem rD {o : Ob} (h : bG o = true) : 1 ≤ o.id ∧ o.id ≤ 500 := by
 simp only [bG, Bool.and_eq_true, decide_eq_true_eq] at h
 exact ⟨h.1.2.1.1.1.2, h.1.2.1.1.2⟩
theorem vn {b : Bd} (h : cB bG b = true) : ∀ x, x ∈ b.s0.field ∨ x ∈ b.s1.field → 0 < x ∧ x ≤ 500 := by
 intro x hx
 obtain ⟨o, _, rfl, ho⟩ := vo h x (by
  simp only [aL, eG, List.map_append, List.map_map, List.mem_append, List.mem_map, Function.comp]
  rcases hx with hx | hx
  ·left; right; right; left; exact ⟨x, hx, rfl⟩
  ·right; left; right; right; left; exact ⟨x, hx, rfl⟩)
 have := rD ho
 omega
def iP (b : Bd) : Bool := if b.active = 0 then jy b.s0.field b.s1.field b.att b.blocks else jy b.s1.field b.s0.field b.att b.blocks
theorem AQ {H : Heap} {O : Go.Sx.Own} {v : jK} {b : Bd} (h : BdR H O v b) (ha : b.active = 0 ∨ b.active = 1) (hp : ∀ x, x ∈ b.s0.field ∨ x ∈ b.s1.field → 0 < x ∧ x ≤ 500) :
  RetO PP jn [.agg (bq v b).toArray] H O (.bool (iP b)) := by
 refine ml (vs := bq v b) (by kernel_rfl) (bE h) ?_
 simp only [ji]
 refine an fun r0 => ae ?_
 have e34 : g (bq v b) 34 = iV b.active := rfl
 rw [e34]
 have hs : ∀ n : Int, n = 0 ∨ n = 1 → af (.bin .sub .int) [iV 1, iV n] = some (iV (1 - n)) := by
  rintro n (rfl | rfl) <;> rfl
 rcases ha with ha | ha
 ·rw [ha]
  refine ⟨.i64, 0, rfl, fun _ => ae (ae (ab _ (hs 0 (.inl rfl)) ⟨.i64, 1, rfl, fun e => absurd e (by omega), fun _ => ⟨.i64, 1, rfl, fun _ => ?_, fun e => absurd rfl e⟩⟩)), fun e => absurd rfl e⟩
  refine ae ?_
  refine pV h.s0.field h.s1.field h.att h.blocks (fun x hx => (hp x (.inl hx)).1) (fun x hx => hp x (.inr hx)) ?_ ?_ ?_
  ·intros; simp [Eqs]
  ·intros; simp [Eqs]
  ·exact fun H' _ => ⟨by simp [iP, ha], rfl⟩
 ·rw [ha]
  refine ⟨.i64, 1, rfl, fun e => absurd e (by omega), fun _ => ⟨.i64, 1, rfl, fun _ => ae (ae (ab _ (hs 1 (.inr rfl)) ⟨.i64, 0, rfl, fun _ => ?_, fun e => absurd rfl e⟩)), fun e => absurd rfl e⟩⟩
  refine ae ?_
  refine pV h.s1.field h.s0.field h.att h.blocks (fun x hx => (hp x (.inr hx)).1) (fun x hx => hp x (.inl hx)) ?_ ?_ ?_
  ·intros; simp [Eqs]
  ·intros; simp [Eqs]
  ·exact fun H' _ => ⟨by simp [iP, ha], rfl⟩
theorem tG {b : Bool} (h : (!b) = true) : b = false := by simpa using h
theorem tH {b : Bool} (h : (!b) = false) : b = true := by simpa using h
def dL (s : St) : Bool := ap s.life 0 9999 && (([s.p0, s.p1, s.p2, s.p3].all fun n => ap n 0 99) && (ap s.mull 0 7 && ap s.acts 0 255))
def uJ (b : Bd) : Bool := ((!ap b.passes 0 2 || decide ((b.objs.length : Int) > 500)) || decide ((b.stack.length : Int) > 200)) || decide ((b.queue.length : Int) > 200)
def aC (b : Bd) : Bool := ap b.active 0 1 && (ap b.turn 0 1000 && (ap b.phase 0 10 && (ap b.holder (-1) 1 && (!uJ b && (dL b.s0 && (dL b.s1 &&
 (!(b.stack.any fun x => !lq x false) && (!(b.queue.any fun x => !lq x true) && (cB bG b && iP b)))))))))
theorem gA {H : Heap} {O : Go.Sx.Own} {v : jK} {b : Bd} (h : BdR H O v b) : RetO PP gK [.agg (bq v b).toArray] H O (.bool (aC b)) := by
 refine ng (vs := bq v b) (by kernel_rfl) (bE h) ?_
 simp only [kJ]
 refine an fun r0 => ?_
 refine ae (am (bL b.active 0 1 H O) rfl ⟨rfl, trivial⟩ fun H1 l1 => ab _ (aI _) (au (fun hb => ak ⟨?_, rfl⟩) (fun hb => ?_)))
 ·have kf : ap b.active 0 1 = false := tG hb
  simp only [aC, kf, Bool.true_and, Bool.false_and, Bool.and_false]
 have k1 : ap b.active 0 1 = true := tH hb
 replace h := h.le l1
 clear hb
 refine ae (am (bL b.turn 0 1000 H1 O) rfl ⟨rfl, trivial⟩ fun H2 l2 => ab _ (aI _) (au (fun hb => ak ⟨?_, rfl⟩) (fun hb => ?_)))
 ·have kf : ap b.turn 0 1000 = false := tG hb
  simp only [aC, k1, kf, Bool.true_and, Bool.false_and, Bool.and_false]
 have k2 : ap b.turn 0 1000 = true := tH hb
 replace h := h.le l2
 clear hb
 refine ae (am (bL b.phase 0 10 H2 O) rfl ⟨rfl, trivial⟩ fun H3 l3 => ab _ (aI _) (au (fun hb => ak ⟨?_, rfl⟩) (fun hb => ?_)))
 ·have kf : ap b.phase 0 10 = false := tG hb
  simp only [aC, k1, k2, kf, Bool.true_and, Bool.false_and, Bool.and_false]
 have k3 : ap b.phase 0 10 = true := tH hb
 replace h := h.le l3
 clear hb
 refine ae (am (bL b.holder (-1) 1 H3 O) rfl ⟨rfl, trivial⟩ fun H4 l4 => ab _ (aI _) (au (fun hb => ak ⟨?_, rfl⟩) (fun hb => ?_)))
 ·have kf : ap b.holder (-1) 1 = false := tG hb
  simp only [aC, k1, k2, k3, kf, Bool.true_and, Bool.false_and, Bool.and_false]
 have k4 : ap b.holder (-1) 1 = true := tH hb
 replace h := h.le l4
 clear hb
 refine ae (am (bL b.passes 0 2 H4 O) rfl ⟨rfl, trivial⟩ fun H5 l5 => ab _ (aI _) ?_)
 replace h := h.le l5
 have lo := h.objs.len
 rw [List.length_map] at lo
 refine ae (ai (ai ?_))
 refine ab _ (lo) (ai (ab _ (ij _ _) (ai (ab _ (bQ _ _) ?_))))
 refine ae (ai (ai ?_))
 refine ab _ (ItsR.len h.stack) (ai (ab _ (ij _ _) (ai (ab _ (bQ _ _) ?_))))
 refine ae (ai (ai ?_))
 refine ab _ (ItsR.len h.queue) (ai (ab _ (ij _ _) (ai (ab _ (bQ _ _) ?_))))
 refine au (fun hb => ak ⟨?_, rfl⟩) (fun hb => ?_)
 ·have kf : uJ b = true := hb
  simp only [aC, k1, k2, k3, k4, kf, Bool.true_and, Bool.not_true, Bool.false_and]
 have kmid : uJ b = false := hb
 clear hb
 refine ae (an fun r1 => ae ?_)
 refine ae (am (bL b.s0.life 0 9999 H5 O) rfl ⟨rfl, trivial⟩ fun H6 l6 => ab _ (aI _) (au (fun hb => ak ⟨?_, rfl⟩) (fun hb => ?_)))
 ·have kf : ap b.s0.life 0 9999 = false := tG hb
  simp only [aC, dL, k1, k2, k3, k4, kmid, kf, Bool.true_and, Bool.false_and, Bool.and_false, Bool.not_false]
 have k6 : ap b.s0.life 0 9999 = true := tH hb
 replace h := h.le l6
 clear hb
 refine ae (am (lT b.s0.p0 b.s0.p1 b.s0.p2 b.s0.p3 H6 O) rfl ⟨rfl, trivial⟩ fun H7 l7 => ab _ (aI _) (au (fun hb => ak ⟨?_, rfl⟩) (fun hb => ?_)))
 ·have kf : ([b.s0.p0, b.s0.p1, b.s0.p2, b.s0.p3].all fun n => ap n 0 99) = false := tG hb
  simp only [aC, dL, k1, k2, k3, k4, kmid, k6, kf, Bool.true_and, Bool.false_and, Bool.and_false, Bool.not_false]
 have k7 : ([b.s0.p0, b.s0.p1, b.s0.p2, b.s0.p3].all fun n => ap n 0 99) = true := tH hb
 replace h := h.le l7
 clear hb
 refine ae (am (bL b.s0.mull 0 7 H7 O) rfl ⟨rfl, trivial⟩ fun H8 l8 => ab _ (aI _) (au (fun hb => ak ⟨?_, rfl⟩) (fun hb => ?_)))
 ·have kf : ap b.s0.mull 0 7 = false := tG hb
  simp only [aC, dL, k1, k2, k3, k4, kmid, k6, k7, kf, Bool.true_and, Bool.false_and, Bool.and_false, Bool.not_false]
 have k8 : ap b.s0.mull 0 7 = true := tH hb
 replace h := h.le l8
 clear hb
 refine ae (am (bL b.s0.acts 0 255 H8 O) rfl ⟨rfl, trivial⟩ fun H9 l9 => ab _ (aI _) (au (fun hb => ak ⟨?_, rfl⟩) (fun hb => ?_)))
 ·have kf : ap b.s0.acts 0 255 = false := tG hb
  simp only [aC, dL, k1, k2, k3, k4, kmid, k6, k7, k8, kf, Bool.true_and, Bool.false_and, Bool.and_false, Bool.not_false]
 have k9 : ap b.s0.acts 0 255 = true := tH hb
 replace h := h.le l9
 clear hb
 refine an fun r2 => ae ?_
 refine ae (am (bL b.s1.life 0 9999 H9 O) rfl ⟨rfl, trivial⟩ fun H10 l10 => ab _ (aI _) (au (fun hb => ak ⟨?_, rfl⟩) (fun hb => ?_)))
 ·have kf : ap b.s1.life 0 9999 = false := tG hb
  simp only [aC, dL, k1, k2, k3, k4, kmid, k6, k7, k8, k9, kf, Bool.true_and, Bool.false_and, Bool.and_false, Bool.not_false]
 have k10 : ap b.s1.life 0 9999 = true := tH hb
 replace h := h.le l10
 clear hb
 refine ae (am (lT b.s1.p0 b.s1.p1 b.s1.p2 b.s1.p3 H10 O) rfl ⟨rfl, trivial⟩ fun H11 l11 => ab _ (aI _) (au (fun hb => ak ⟨?_, rfl⟩) (fun hb => ?_)))
 ·have kf : ([b.s1.p0, b.s1.p1, b.s1.p2, b.s1.p3].all fun n => ap n 0 99) = false := tG hb
  simp only [aC, dL, k1, k2, k3, k4, kmid, k6, k7, k8, k9, k10, kf, Bool.true_and, Bool.false_and, Bool.and_false, Bool.not_false]
 have k11 : ([b.s1.p0, b.s1.p1, b.s1.p2, b.s1.p3].all fun n => ap n 0 99) = true := tH hb
 replace h := h.le l11
 clear hb
 refine ae (am (bL b.s1.mull 0 7 H11 O) rfl ⟨rfl, trivial⟩ fun H12 l12 => ab _ (aI _) (au (fun hb => ak ⟨?_, rfl⟩) (fun hb => ?_)))
 ·have kf : ap b.s1.mull 0 7 = false := tG hb
  simp only [aC, dL, k1, k2, k3, k4, kmid, k6, k7, k8, k9, k10, k11, kf, Bool.true_and, Bool.false_and, Bool.and_false, Bool.not_false]
 have k12 : ap b.s1.mull 0 7 = true := tH hb
 replace h := h.le l12
 clear hb
 refine ae (am (bL b.s1.acts 0 255 H12 O) rfl ⟨rfl, trivial⟩ fun H13 l13 => ab _ (aI _) (au (fun hb => ak ⟨?_, rfl⟩) (fun hb => ?_)))
 ·have kf : ap b.s1.acts 0 255 = false := tG hb
  simp only [aC, dL, k1, k2, k3, k4, kmid, k6, k7, k8, k9, k10, k11, k12, kf, Bool.true_and, Bool.false_and, Bool.and_false, Bool.not_false]
 have k13 : ap b.s1.acts 0 255 = true := tH hb
 replace h := h.le l13
 clear hb
 refine ae (am (eM (p := fun x => !lq x false) h.stack rfl (eI fP (by decide)) fun H' _ row x hx => yf hx) rfl ⟨rfl, trivial⟩ fun H20 l20 => au (fun hb => ak ⟨?_, rfl⟩) (fun hb => ?_))
 ·simp only [aC, dL, k1, k2, k3, k4, kmid, k6, k7, k8, k9, k10, k11, k12, k13, hb, Bool.true_and, Bool.not_true, Bool.not_false, Bool.false_and]
 replace h := h.le l20
 refine ae (am (eM (p := fun x => !lq x true) h.queue rfl (eI fP (by decide)) fun H' _ row x hx => ye hx) rfl ⟨rfl, trivial⟩ fun H21 l21 => ab _ (aI _) (au (fun hq => ?_) (fun hq => ak ⟨?_, rfl⟩)))
 ·replace h := h.le l21
  simp only [Bool.not_eq_true'] at hq
  have hfin : aC b = (cB bG b && iP b) := by simp only [aC, dL, k1, k2, k3, k4, kmid, k6, k7, k8, k9, k10, k11, k12, k13, hb, hq, Bool.true_and, Bool.not_false]
  refine ae (am (AM h) rfl ⟨rfl, trivial⟩ fun H22 l22 => au (fun hp => ?_) (fun hp => ak ⟨?_, rfl⟩))
  ·replace h := h.le l22
   have ha : b.active = 0 ∨ b.active = 1 := by have := k1; simp only [ap, decide_eq_true_eq] at this; omega
   refine ae (am (AQ h ha (vn hp)) rfl ⟨rfl, trivial⟩ fun H23 l23 => ak ⟨?_, rfl⟩)
   rw [hfin, hp, Bool.true_and]; rfl
  ·rw [hfin, hp]; rfl
 ·simp only [Bool.not_eq_false'] at hq
  simp only [aC, dL, k1, k2, k3, k4, kmid, k6, k7, k8, k9, k10, k11, k12, k13, hb, hq, Bool.true_and, Bool.not_false, Bool.not_true, Bool.false_and]
end Go.Proofs.YtpcpmblfhlcmaaaGreatDoor
namespace Go.Sx
open Go
abbrev Mem := List (Nat × Option Bx)
abbrev Dec (α : Type) := List At → Option (List Ck × α)
def dI : At → Option Int
 | .k (.int .i64 n) => some n
 | _ => none
def dB : At → Option Bool
 | .k (.bool b) => some b
 | _ => none
theorem cE {a : At} {n : Int} (h : dI a = some n) : a = .k (iV n) := by
 unfold dI at h
 split at h
 ·cases h; rfl
 ·cases h
theorem q9 {a : At} {n : Bool} (h : dB a = some n) : a = .k (.bool n) := by
 unfold dB at h
 split at h
 ·cases h; rfl
 ·cases h
def wN {α : Type} (size : Nat) (dec : Dec α) : Nat → List At → Option (List Ck × List α)
 | 0, _ => some ([], [])
 | n + 1, cs =>
  match dec (cs.take size) with
  | none => none
  | some (k, a) => match wN size dec n (cs.drop size) with
   | none => none
   | some (k', l) => some (k ++ k', a :: l)
def slD {α : Type} (mem : Mem) (size : Nat) (dec : Dec α) : At → Option (List Ck × List α)
 | .k (.slice none 0 0) => some ([], [])
 | .sl n r off len _ =>
  match aO mem n with
  | some (some b) => if (Nat.ble (off + len * size) b.cs.length && Nat.blt len 4611686018427387904) = true then
    match wN size dec len (b.cs.drop off) with
    | some (k, l) => some (.eqN r b.r :: k, l)
    | none => none
   else none
  | _ => none
 | _ => none
def oR {α : Type} (size : Nat) (dec : Dec α) (Rl : List Value → α → Prop) : Prop :=
 ∀ cs k a, dec cs = some (k, a) → AllCk k → cs.length = size ∧ cs.all At.known = true ∧ Rl (cs.map At.den) a ∧ Ones (cs.map At.den)
theorem ux {α : Type} {size : Nat} {dec : Dec α} {Rl : List Value → α → Prop} (hd : oR size dec Rl) : ∀ {n : Nat} {cs : List At} {vs : List Value} {k : List Ck} {l : List α}, wN size dec n cs = some (k, l) → AllCk k → CellsRel cs vs →
  l.length = n ∧ ∀ (i : Nat) (a : α), l[i]? = some a → Rl ((vs.drop (i * size)).take size) a ∧ Ones ((vs.drop (i * size)).take size) ∧ ((vs.drop (i * size)).take size).length = size
 | 0, cs, vs, k, l, h, _, _ => by
  simp only [wN, Option.some.injEq, Prod.mk.injEq] at h
  obtain ⟨_, rfl⟩ := h
  exact ⟨rfl, fun i a h => by simp at h⟩
 | n + 1, cs, vs, k, l, h, hk, hr => by
  simp only [wN] at h
  split at h
  ·cases h
  ·rename_i k1 a h1
   split at h
   ·cases h
   ·rename_i k2 l' h2
    simp only [Option.some.injEq, Prod.mk.injEq] at h
    obtain ⟨rfl, rfl⟩ := h
    rw [AllCk.append] at hk
    obtain ⟨d1, d2, d3, d4⟩ := hd _ _ _ h1 hk.1
    have e : vs.take size = (cs.take size).map At.den := (hr.take size).known d2
    obtain ⟨i1, i2⟩ := ux hd h2 hk.2 (hr.drop size)
    refine ⟨by simp [i1], fun i a' hi => ?_⟩
    cases i with
    | zero =>
     simp only [List.getElem?_cons_zero, Option.some.injEq] at hi
     subst hi
     rw [Nat.zero_mul, List.drop_zero, e]
     exact ⟨d3, d4, by rw [List.length_map, d1]⟩
    | succ i =>
     have := i2 i a' (by simpa using hi)
     rw [List.drop_drop] at this
     rw [show (i + 1) * size = size + i * size by rw [Nat.add_mul]; omega]
     exact this
theorem rK {α : Type} {mem : Mem} {size : Nat} {dec : Dec α} {Rl : List Value → α → Prop} (hd : oR size dec Rl) {x : At} {k : List Ck} {l : List α} (h : slD mem size dec x = some (k, l)) (hk : AllCk k) {L : Go.Sx.Own} (hB : Boxes (fun n => (aO mem n).getD none) L) (H : Heap) :
  x.known = true ∧ ∃ rows, RSl H L size x.den rows ∧ rows.length = l.length ∧ ∀ (i : Nat) (r : List Value) (a : α), rows[i]? = some r → l[i]? = some a → Rl r a := by
 unfold slD at h
 split at h
 ·simp only [Option.some.injEq, Prod.mk.injEq] at h
  obtain ⟨_, rfl⟩ := h
  exact ⟨rfl, [], (Sl.nil H size).rsl L, rfl, fun i r a h => by simp at h⟩
 ·rename_i n r off len cap
  split at h
  ·rename_i b hb
   split at h
   ·rename_i hc
    split at h
    ·rename_i k' l' hrow
     simp only [Option.some.injEq, Prod.mk.injEq] at h
     obtain ⟨rfl, rfl⟩ := h
     obtain ⟨hr, hk'⟩ := hk
     have hr : r = b.r := hr
     subst hr
     rw [Bool.and_eq_true] at hc
     have hfit : off + len * size ≤ b.cs.length := Nat.le_of_ble_eq_true hc.1
     have hlen : len < 4611686018427387904 := Nat.le_of_ble_eq_true hc.2
     obtain ⟨vs, L', hrel, hp, _⟩ := hB.take (n := n) (b := b) (by simp [hb])
     have hvl := hrel.length
     obtain ⟨l1, l2⟩ := ux hd hrow hk' (hrel.drop off)
     refine ⟨rfl, (List.range len).map fun i => ((vs.drop off).drop (i * size)).take size, ⟨rfl, ?_, ?_, ?_⟩, by simp [l1], ?_⟩
     ·simp [At.den, af, goInt]
     ·simp; omega
     ·intro kd i row hi
      have hlt : i < len := by
       have := (List.getElem?_eq_some_iff.1 hi).1
       simpa using this
      have hrowi : ((vs.drop off).drop (i * size)).take size = row := by
       rw [List.getElem?_map, List.getElem?_range hlt] at hi
       simpa using hi
      have hli : l'[i]? = some l'[i] := List.getElem?_eq_getElem (by omega)
      obtain ⟨q1, q2, q3⟩ := l2 i _ hli
      rw [hrowi] at q1 q2 q3
      have hmem : (b.r, Obj.cells vs.toArray b.T (0, 0)) ∈ L := hp.mem_iff.2 (by simp)
      refine ⟨⟨b.r, off + i * size, none⟩, ?_, .inr ⟨_, vs.toArray, b.T, rfl, rfl, hmem, ?_, q3⟩, fun o m hle => .inr ⟨⟨b.r, off + i * size + o, none⟩, vs.toArray, b.T, ?_, rfl, hmem, ?_, ?_⟩, q3, q2⟩
      ·simp only [At.den, af, gx]
       rw [if_pos ⟨by omega, by omega⟩, aZ]
       simp
      ·rw [← hrowi, List.drop_drop]
      ·show Value.pointer (some ((⟨b.r, off + i * size, none⟩ : Addr).add o)) = _
       rw [aZ]
      ·rw [← hrowi, List.drop_drop, List.drop_take, List.take_take, Nat.min_eq_left (by omega), List.drop_drop]
      ·rw [List.length_take, List.length_drop, q3]; omega
     ·intro i r a hi ha
      have hlt : i < len := by
       have := (List.getElem?_eq_some_iff.1 hi).1
       simpa using this
      rw [List.getElem?_map, List.getElem?_range hlt] at hi
      have hi : ((vs.drop off).drop (i * size)).take size = r := by simpa using hi
      rw [← hi]
      exact (l2 i a ha).1
    ·cases h
   ·cases h
  ·cases h
 ·cases h
theorem dY {α : Type} {mem : Mem} {size : Nat} {dec : Dec α} {row : α → List Value} (hd : oR size dec fun r a => r = row a) {x : At} {k : List Ck} {l : List α} (h : slD mem size dec x = some (k, l)) (hk : AllCk k) {L : Go.Sx.Own} (hB : Boxes (fun n => (aO mem n).getD none) L) (H : Heap) :
  RSl H L size x.den (l.map row) := by
 obtain ⟨_, rows, h1, h2, h3⟩ := rK hd h hk hB H
 have : rows = l.map row := by
  refine List.ext_getElem (by simp [h2]) fun i a b => ?_
  have := h3 i rows[i] l[i] (List.getElem?_eq_getElem a) (List.getElem?_eq_getElem (by omega))
  rw [this]; simp
 rw [← this]; exact h1
def ip : Dec Int
 | [a] => match dI a with | some n => some ([], n) | none => none
 | _ => none
theorem dC : oR 1 ip fun r n => r = [iV n] := by
 intro cs k a h _
 unfold ip at h
 split at h
 ·split at h
  ·rename_i n hn
   simp only [Option.some.injEq, Prod.mk.injEq] at h
   obtain ⟨_, rfl⟩ := h
   obtain rfl := cE hn
   exact ⟨rfl, rfl, rfl, rfl, trivial⟩
  ·cases h
 ·cases h
def pX {α : Type} (f : Int → Int → α) : Dec α
 | [a, b] => match dI a, dI b with | some n, some m => some ([], f n m) | _, _ => none
 | _ => none
theorem sO {α : Type} {f : Int → Int → α} {row : α → List Value} (hf : ∀ n m, row (f n m) = [iV n, iV m]) : oR 2 (pX f) fun r a => r = row a := by
 intro cs k a h _
 unfold pX at h
 split at h
 ·split at h
  ·rename_i n m hn hm
   simp only [Option.some.injEq, Prod.mk.injEq] at h
   obtain ⟨_, rfl⟩ := h
   obtain rfl := cE hn
   obtain rfl := cE hm
   exact ⟨rfl, rfl, (hf n m).symm, rfl, rfl, trivial⟩
  ·cases h
 ·cases h
def EF : Dec Ob
 | [a0, a1, a2, a3, a4, a5, a6, a7, a8, b0, b1, b2] =>
  (dI a0).bind fun n0 => (dI a1).bind fun n1 => (dI a2).bind fun n2 => (dI a3).bind fun n3 => (dI a4).bind fun n4 => (dI a5).bind fun n5 => (dI a6).bind fun n6 => (dI a7).bind fun n7 => (dI a8).bind fun n8 => (dB b0).bind fun m0 => (dB b1).bind fun m1 => (dB b2).bind fun m2 => some ([], ⟨n0, n1, n2, n3, n4, n5, n6, n7, n8, m0, m1, m2⟩)
 | _ => none
theorem AA : oR 12 EF fun r o => r = Ob.row o := by
 intro cs k a h _
 unfold EF at h
 split at h
 ·simp only [Option.bind_eq_some_iff, Option.some.injEq, Prod.mk.injEq] at h
  obtain ⟨n0, e0, n1, e1, n2, e2, n3, e3, n4, e4, n5, e5, n6, e6, n7, e7, n8, e8, m0, f0, m1, f1, m2, f2, _, rfl⟩ := h
  obtain rfl := cE e0
  obtain rfl := cE e1
  obtain rfl := cE e2
  obtain rfl := cE e3
  obtain rfl := cE e4
  obtain rfl := cE e5
  obtain rfl := cE e6
  obtain rfl := cE e7
  obtain rfl := cE e8
  obtain rfl := q9 f0
  obtain rfl := q9 f1
  obtain rfl := q9 f2
  exact ⟨rfl, rfl, rfl, rfl, rfl, rfl, rfl, rfl, rfl, rfl, rfl, rfl, rfl, rfl, rfl, trivial⟩
 ·cases h
def xO (mem : Mem) : Dec It
 | [a0, a1, a2, a3, s] => (dI a0).bind fun n0 => (dI a1).bind fun n1 => (dI a2).bind fun n2 => (dI a3).bind fun n3 => (slD mem 2 (pX Tg.mk) s).bind fun t => some (t.1, ⟨n0, n1, n2, n3, t.2⟩)
 | _ => none
theorem uQ : oR 2 (pX Tg.mk) fun r t => r = Tg.row t := sO fun _ _ => rfl
theorem AC : oR 2 (pX Bl.mk) fun r t => r = Bl.row t := sO fun _ _ => rfl
theorem AB {mem : Mem} {L : Go.Sx.Own} (hB : Boxes (fun n => (aO mem n).getD none) L) (H : Heap) : oR 5 (xO mem) fun r x => ItR H L r x := by
 intro cs k a h hk
 unfold xO at h
 split at h
 ·simp only [Option.bind_eq_some_iff, Option.some.injEq, Prod.mk.injEq] at h
  obtain ⟨n0, e0, n1, e1, n2, e2, n3, e3, t, e4, rfl, rfl⟩ := h
  obtain rfl := cE e0
  obtain rfl := cE e1
  obtain rfl := cE e2
  obtain rfl := cE e3
  have hs := dY uQ e4 hk hB H
  have hkn := (rK uQ e4 hk hB H).1
  exact ⟨rfl, by rw [List.all_cons, List.all_cons, List.all_cons, List.all_cons, List.all_cons, hkn]; rfl, ⟨_, rfl, hs⟩, rfl, rfl, rfl, rfl, hs.one, trivial⟩
 ·cases h
theorem wG {mem : Mem} {x : At} {k : List Ck} {l : List It} (h : slD mem 5 (xO mem) x = some (k, l)) (hk : AllCk k) {L : Go.Sx.Own} (hB : Boxes (fun n => (aO mem n).getD none) L) (H : Heap) : ItsR H L x.den l := by
 obtain ⟨_, rows, h1, h2, h3⟩ := rK (AB hB H) h hk hB H
 exact ⟨rows, h1, h2, h3⟩
def dBd (mem : Mem) : List At → Option (List Ck × jK × Bd)
 | a0 :: a1 :: a2 :: a3 :: a4 :: a5 :: a6 :: a7 :: a8 :: a9 :: a10 :: a11 :: a12 :: a13 :: a14 :: a15 :: a16 :: a17 :: a18 :: a19 :: a20 :: a21 :: a22 :: a23 :: a24 :: a25 :: a26 :: a27 :: a28 :: a29 :: a30 :: a31 :: a32 :: a33 :: a34 :: a35 :: a36 :: a37 :: [] =>
  (slD mem 12 EF a0).bind fun n0 => (dI a1).bind fun n1 => (dI a2).bind fun n2 => (dI a3).bind fun n3 => (dI a4).bind fun n4 => (dI a5).bind fun n5 => (slD mem 1 ip a6).bind fun n6 => (slD mem 1 ip a7).bind fun n7 => (slD mem 1 ip a8).bind fun n8 => (slD mem 1 ip a9).bind fun n9 => (dB a10).bind fun n10 => (dB a11).bind fun n11 => (dB a12).bind fun n12 => (dI a13).bind fun n13 => (dI a14).bind fun n14 => (dI a15).bind fun n15 => (dI a16).bind fun n16 => (dI a17).bind fun n17 => (dI a18).bind fun n18 => (dI a19).bind fun n19 => (slD mem 1 ip a20).bind fun n20 => (slD mem 1 ip a21).bind fun n21 => (slD mem 1 ip a22).bind fun n22 => (slD mem 1 ip a23).bind fun n23 => (dB a24).bind fun n24 => (dB a25).bind fun n25 => (dB a26).bind fun n26 => (dI a27).bind fun n27 => (dI a28).bind fun n28 => (slD mem 5 (xO mem) a29).bind fun n29 => (slD mem 5 (xO mem) a30).bind fun n30 => (slD mem 1 ip a31).bind fun n31 => (slD mem 2 (pX Bl.mk) a32).bind fun n32 => (dI a33).bind fun n33 => (dI a34).bind fun n34 => (dI a35).bind fun n35 => (dI a36).bind fun n36 => (dI a37).bind fun n37 => 
   some (n0.1 ++ (n6.1 ++ (n7.1 ++ (n8.1 ++ (n9.1 ++ (n20.1 ++ (n21.1 ++ (n22.1 ++ (n23.1 ++ (n29.1 ++ (n30.1 ++ (n31.1 ++ (n32.1)))))))))))), ⟨a0.den, a6.den, a7.den, a8.den, a9.den, a20.den, a21.den, a22.den, a23.den, a29.den, a30.den, a31.den, a32.den⟩, ⟨n0.2, ⟨n1, n2, n3, n4, n5, n6.2, n7.2, n8.2, n9.2, n10, n11, n12, n13, n14⟩, ⟨n15, n16, n17, n18, n19, n20.2, n21.2, n22.2, n23.2, n24, n25, n26, n27, n28⟩, n29.2, n30.2, n31.2, n32.2, n33, n34, n35, n36, n37⟩)
 | _ => none
theorem sP {mem : Mem} {l : List At} {k : List Ck} {v : jK} {b : Bd} (h : dBd mem l = some (k, v, b)) (hk : AllCk k) {L : Go.Sx.Own} (hB : Boxes (fun n => (aO mem n).getD none) L) (H : Heap) : l.map At.den = bq v b ∧ BdR H L v b := by
 unfold dBd at h
 split at h
 ·simp only [Option.bind_eq_some_iff, Option.some.injEq, Prod.mk.injEq] at h
  obtain ⟨n0, e0, n1, e1, n2, e2, n3, e3, n4, e4, n5, e5, n6, e6, n7, e7, n8, e8, n9, e9, n10, e10, n11, e11, n12, e12, n13, e13, n14, e14, n15, e15, n16, e16, n17, e17, n18, e18, n19, e19, n20, e20, n21, e21, n22, e22, n23, e23, n24, e24, n25, e25, n26, e26, n27, e27, n28, e28, n29, e29, n30, e30, n31, e31, n32, e32, n33, e33, n34, e34, n35, e35, n36, e36, n37, e37, rfl, rfl, rfl⟩ := h
  simp only [AllCk.append] at hk
  obtain ⟨c0, c6, c7, c8, c9, c20, c21, c22, c23, c29, c30, c31, c32⟩ := hk
  obtain rfl := cE e1
  obtain rfl := cE e2
  obtain rfl := cE e3
  obtain rfl := cE e4
  obtain rfl := cE e5
  obtain rfl := q9 e10
  obtain rfl := q9 e11
  obtain rfl := q9 e12
  obtain rfl := cE e13
  obtain rfl := cE e14
  obtain rfl := cE e15
  obtain rfl := cE e16
  obtain rfl := cE e17
  obtain rfl := cE e18
  obtain rfl := cE e19
  obtain rfl := q9 e24
  obtain rfl := q9 e25
  obtain rfl := q9 e26
  obtain rfl := cE e27
  obtain rfl := cE e28
  obtain rfl := cE e33
  obtain rfl := cE e34
  obtain rfl := cE e35
  obtain rfl := cE e36
  obtain rfl := cE e37
  exact ⟨rfl, ⟨dY AA e0 c0 hB H, ⟨dY dC e6 c6 hB H, dY dC e7 c7 hB H, dY dC e8 c8 hB H, dY dC e9 c9 hB H⟩, ⟨dY dC e20 c20 hB H, dY dC e21 c21 hB H, dY dC e22 c22 hB H, dY dC e23 c23 hB H⟩, wG e29 c29 hB H, wG e30 c30 hB H, dY dC e31 c31 hB H, dY AC e32 c32 hB H⟩⟩
 ·cases h
def Gj (fv : Nat) (val : Bd → Bool) : SumF := fun f args mem _ =>
 if Nat.beq f fv = true then
  match args with
  | [.agg l] => match dBd mem l with
   | some (k, _, b) => some (k, .s (.at (.k (.bool (val b)))))
   | none => none
  | _ => none
 else none
theorem BF {P : Program} {ok : FuncId → Bool} {fv : Nat} {val : Bd → Bool} (hc : ∀ (H : Heap) (O : Go.Sx.Own) (v : jK) (b : Bd), BdR H O v b → RetO P fv [.agg (bq v b).toArray] H O (.bool (val b))) (H : Heap) : SumOk P ok H (Gj fv val) := by
 intro f args mem h cs sv _ hs hck
 unfold Gj at hs
 split at hs
 ·rename_i hf
  have hf : f = fv := Nat.eq_of_beq_eq_true hf
  subst hf
  split at hs
  ·rename_i l
   split at hs
   ·rename_i k v b hd
    simp only [Option.some.injEq, Prod.mk.injEq] at hs
    obtain ⟨rfl, rfl⟩ := hs
    refine ⟨jZ _, fun F w next _ hm => ?_⟩
    obtain ⟨L, O, hB, hok, hM, hmod, hfr⟩ := hm
    obtain ⟨h1, h2⟩ := sP hd hck hB H
    have hret := Triple.frame (hc H L v b h2) O
    have e : (([S1.agg l] : List S1).map S1.den).toArray = [Value.agg (bq v b).toArray].toArray := by simp [S1.den, h1]
    rw [e]
    refine (hret w F (by simpa using hmod)).mono ?_
    rintro e' w' ⟨v', H', O', he, ⟨O'', q1, q2, q3⟩, hle, hm'⟩
    rw [q1, q3] at hm'
    exact ⟨v', he, q2, L, O, hB, hok, hM, by simpa using hm'.less hle, hfr⟩
   ·cases hs
  ·cases hs
 ·cases hs
end Go.Sx
namespace Go.Proofs.YtpcpmblfhlcmaaaGreatDoor
open Go Go.Sx
set_option maxRecDepth 100000
set_option maxHeartbeats 1000000
def sumNm : SumF := fun f args _ _ =>
 if Nat.beq f fw = true then
  match args with
  | [.at (.k (.string s))] => if ((s.data.toList == Bn || s.data.toList == Iw) || (s.data.toList == E4 || s.data.toList == HC)) = true then some ([], .s (.at (.k (.bool true)))) else none
  | _ => none
 else none
theorem yT {ok : FuncId → Bool} {H : Heap} (hg : GlobOk dp H) : SumOk PP ok H sumNm := by
 intro f args mem h cs sv _ hs hck
 unfold sumNm at hs
 split at hs
 ·rename_i hf
  have hf := Nat.eq_of_beq_eq_true hf
  split at hs
  ·rename_i s
   split at hs
   ·rename_i hc
    simp only [Option.some.injEq, Prod.mk.injEq] at hs
    obtain ⟨rfl, rfl⟩ := hs
    refine ⟨jZ _, fun F w next _ hm => ?_⟩
    obtain ⟨L, O, hB, hok, hM, hmod, hfr⟩ := hm
    have hret : RetO PP fw [.string s] H (L ++ O) (.bool true) := by
     have e : Value.string s = Str s.data.toList := by obtain ⟨d⟩ := s; rfl
     rw [e]
     simp only [Bool.or_eq_true, beq_iff_eq] at hc
     rcases hc with (hc | hc) | hc | hc
     ·rw [hc]; exact mH u4 (by decide) (by decide) hg _
     ·rw [hc]; exact mH yF (by decide) (by decide) hg _
     ·rw [hc]; exact mH wj (by decide) (by decide) hg _
     ·rw [hc]; exact mH yE (by decide) (by decide) hg _
    rw [hf]
    refine (hret w F (by simpa using hmod)).mono ?_
    rintro e' w' ⟨v', H', O', he, ⟨q2, q3⟩, hle, hm'⟩
    rw [q3] at hm'
    exact ⟨v', he, q2, L, O, hB, hok, hM, by simpa using hm'.less hle, hfr⟩
   ·cases hs
  ·cases hs
 ·cases hs
def sumN : SumG := (wv 245 177 ec).or ((Gj gK aC).toG.or sumNm.toG)
theorem BE {H : Heap} (hg : GlobOk dp H) : SumOkG PP cfgN.ok H sumN :=
 sumSeq_ok.or ((SumOk.toG (BF (fun _ _ _ _ h => gA h) H)).or (SumOk.toG (yT hg)))
end Go.Proofs.YtpcpmblfhlcmaaaGreatDoor
namespace Go.Proofs.YtpcpmblfhlcmaaaGreatDoor
open Go Go.Sx
def q (n : Int) : At := .k (.int .i64 n)
def bt : At := .k (.bool true)
def bf : At := .k (.bool false)
def zs : At := .k (.slice none 0 0)
end Go.Proofs.YtpcpmblfhlcmaaaGreatDoor
namespace Go.Proofs.YtpcpmblfhlcmaaaGreatDoor
open Go Go.Sx
set_option maxRecDepth 100000
set_option maxHeartbeats 1000000
theorem u2 (o : Ob) : bG o = true ↔ ((0 ≤ o.power ∧ o.power ≤ 99) ∧ (0 ≤ o.tough ∧ o.tough ≤ 99) ∧ (0 ≤ o.dmg ∧ o.dmg ≤ 99) ∧ (0 ≤ o.cnt ∧ o.cnt ≤ 99) ∧ (0 ≤ o.pp ∧ o.pp ≤ 99) ∧ (0 ≤ o.pt ∧ o.pt ≤ 99)) ∧
  (o.card = -1 ∨ (o.power = 0 ∧ o.tough = 0)) ∧ 1 ≤ o.id ∧ o.id ≤ 500 ∧ -1 ≤ o.card ∧ o.card < 400 ∧ (o.owner = 0 ∨ o.owner = 1) := by
 simp only [bG, ap, List.all_cons, List.all_nil, Bool.and_true, Bool.and_eq_true, Bool.or_eq_true, decide_eq_true_eq, beq_iff_eq, ge_iff_le]
 omega
abbrev IY (n : Nat) (R : Nat → Value → Heap → Go.Sx.Own → Prop) : List Value → Heap → Go.Sx.Own → Prop := fun vs H O => ∃ (i : Nat) (x : Value), vs = [x, iV i] ∧ i ≤ n ∧ R i x H O
abbrev MY (n : Nat) : List Value → Heap → Go.Sx.Own → Nat := fun vs _ _ => match g vs 1 with | .int _ k => n - k.toNat | _ => 0
theorem pY {P : Program} {lab key : Nat} {x0 : Value} {body : (List Value → Heap → Go.Sx.Own → Prop) → List Value → Tree} {H : Heap} {O : Go.Sx.Own} {Q : Value → Heap → Go.Sx.Own → Prop} (n : Nat) (R : Nat → Value → Heap → Go.Sx.Own → Prop)
  (h0 : R 0 x0 H O) (step : ∀ i x H' O', i ≤ n → Heap.le H H' → R i x H' O' → (body (By (IY n R) (MY n) (n - i)) [x, iV i]).den P Q H' O') :
  (Tree.loop lab key [x0, .int .i64 0] body).den P Q H O := by
 refine mA (IY n R) (MY n) ⟨0, x0, rfl, Nat.zero_le _, h0⟩ ?_
 rintro vs H' O' _ _ hle ⟨i, x, rfl, hi, hr⟩
 exact step i x H' O' hi hle hr
theorem di {P : Program} {lab n i : Nat} {R : Nat → Value → Heap → Go.Sx.Own → Prop} {x : Value} {eqs : List (List Value × List Value)} {H : Heap} {O : Go.Sx.Own} {Q : Value → Heap → Go.Sx.Own → Prop} (he : Eqs eqs) (hi : i < n) (hr : R (i + 1) x H O) :
  (Tree.cont lab (By (IY n R) (MY n) (n - i)) [x, iV ((i + 1 : Nat) : Int)] eqs).den P Q H O := by
 refine kj he ⟨i + 1, x, rfl, hi, hr⟩ ?_
 show n - ((i + 1 : Nat) : Int).toNat < n - i
 simp; omega
def tf (b : Bd) (id : Int) : Int := pd (fun o => o.id == id) b.objs 0
theorem nY {α : Type} (p : α → Bool) : ∀ (l : List α) (i : Int), 0 ≤ i → (pd p l i = -1 ∧ ∀ x ∈ l, p x = false) ∨ ∃ (k : Nat) (x : α), l[k]? = some x ∧ p x = true ∧ pd p l i = i + k
 | [], i, _ => .inl ⟨rfl, by simp⟩
 | a :: l, i, h => by
  simp only [pd]
  by_cases hp : p a = true
  ·right; exact ⟨0, a, rfl, hp, by rw [if_pos hp]; simp⟩
  ·rw [if_neg hp]
   rcases nY p l (i + 1) (by omega) with ⟨h1, h2⟩ | ⟨k, x, h1, h2, h3⟩
   ·left
    refine ⟨h1, fun x hx => ?_⟩
    rcases List.mem_cons.1 hx with rfl | hx
    ·simpa using hp
    ·exact h2 x hx
   ·right; exact ⟨k + 1, x, by simpa using h1, h2, by rw [h3]; omega⟩
theorem rC {o : Ob} (h : bG o = true) : o.owner = 0 ∨ o.owner = 1 := ((u2 o).1 h).2.2.2.2.2.2
def yw : Option Int → List Ob → Bool
 | _, [] => true
 | prev, o :: r => !hG prev o.id && yw (some o.id) r
def ok1 (ps cs : List (Int × Int)) (o : Ob) : Bool := bG o && ((bY ps o.id).isSome && (((bY ps o.id).getD 0 == o.owner) && !((bY cs o.id).isSome && ((bY cs o.id).getD 0 != o.card))))
theorem sg {ps cs : List (Int × Int)} : ∀ (l : List Ob) (prev : Option Int), fQ bG ps cs prev l = (yw prev l && l.all (ok1 ps cs))
 | [], _ => rfl
 | o :: r, prev => by
  simp only [fQ, py, yw, List.all_cons, ok1, sg r (some o.id), bne]
  cases bG o <;> cases hG prev o.id <;> cases bY ps o.id <;> cases bY cs o.id <;> simp [Bool.and_assoc, Bool.and_comm, Bool.and_left_comm]
theorem jX : ∀ {l : List Ob} {prev : Option Int}, yw prev l = true → (∀ o ∈ l, ∀ p, prev = some p → p < o.id) ∧ (l.map (·.id)).Nodup
 | [], _, _ => ⟨by simp, by simp⟩
 | o :: r, prev, h => by
  simp only [yw, Bool.and_eq_true, Bool.not_eq_true'] at h
  obtain ⟨k1, k2⟩ := jX h.2
  have hp : ∀ p, prev = some p → p < o.id := by
   rintro p rfl
   have := h.1
   simp only [hG, decide_eq_false_iff_not] at this
   omega
  refine ⟨fun x hx p e => ?_, ?_⟩
  ·rcases List.mem_cons.1 hx with rfl | hx
   ·exact hp p e
   ·have := k1 x hx _ rfl; have := hp p e; omega
  ·rw [List.map_cons, List.nodup_cons]
   refine ⟨fun hm => ?_, k2⟩
   obtain ⟨x, hx, e⟩ := List.mem_map.1 hm
   have := k1 x hx _ rfl
   omega
def pq (b : Bd) (p : Int) : St := if p = 0 then b.s0 else b.s1
def yA (b : Bd) (p : Int) (s : St) : Bd := if p = 0 then { b with s0 := s } else { b with s1 := s }
def IE (s : St) (z id : Int) : St :=
 if z = 0 then { s with lib := s.lib ++ [id] } else if z = 1 then { s with hand := s.hand ++ [id] } else if z = 2 then { s with field := s.field ++ [id] } else if z = 3 then { s with grave := s.grave ++ [id] } else s
def GH (b : Bd) (p z id : Int) : Bd := yA b p (IE (pq b p) z id)
def Gv (s : St) : List Int := s.lib ++ (s.hand ++ (s.field ++ s.grave))
def Gw (b : Bd) : List Int := Gv b.s0 ++ (Gv b.s1 ++ (dZ b.stack).map (·.id))
theorem sF (b : Bd) : (aL b).map (·.1) = Gw b := by
 simp [aL, eG, Gw, Gv, dM, Function.comp_def]
theorem sc {b : Bd} {val : Ob → Bool} (h : cB val b = true) : (Gw b).Nodup := by
 simp only [cB, Bool.and_eq_true, decide_eq_true_eq] at h
 rw [← sF]; exact h.1
theorem tl {b : Bd} (h : aC b = true) : cB bG b = true ∧ iP b = true ∧ (b.active = 0 ∨ b.active = 1) ∧ b.stack.all (fun x => lq x false) = true := by
 simp only [aC, Bool.and_eq_true, ap, decide_eq_true_eq, Bool.not_eq_true', List.any_eq_false] at h
 refine ⟨h.2.2.2.2.2.2.2.2.2.1, h.2.2.2.2.2.2.2.2.2.2, by have := h.1; omega, ?_⟩
 rw [List.all_eq_true]
 intro x hx
 have := h.2.2.2.2.2.2.2.1 x hx
 simpa using this
theorem nw {b : Bd} (h : cB bG b = true) : yw none b.objs = true ∧ b.objs.all (ok1 (aL b) (bh b.stack)) = true ∧ (aL b).length = b.objs.length := by
 simp only [cB, Bool.and_eq_true, decide_eq_true_eq, sg] at h
 exact ⟨h.2.1.1, h.2.1.2, h.2.2⟩
theorem xy {α : Type} {p : α → Bool} : ∀ {l : List α} {k : Nat} {x : α} (i : Int), l[k]? = some x → p x = true → (∀ (j : Nat) (y : α), j < k → l[j]? = some y → p y = false) → pd p l i = i + k
 | [], k, x, i, h, _, _ => by simp at h
 | a :: l, 0, x, i, h, hp, _ => by
  simp at h; subst h
  simp [pd, hp]
 | a :: l, k + 1, x, i, h, hp, hb => by
  have h0 := hb 0 a (by omega) rfl
  have := xy (i + 1) (l := l) (k := k) (by simpa using h) hp fun j y hj e => hb (j + 1) y (by omega) (by simpa using e)
  simp only [pd, h0, Bool.false_eq_true, if_false, this]
  omega
theorem xB {b : Bd} (hn : (b.objs.map (·.id)).Nodup) {k : Nat} {o : Ob} (h : b.objs[k]? = some o) : tf b o.id = k := by
 have := xy (p := fun x : Ob => x.id == o.id) (l := b.objs) 0 h (by simp) fun j y hj e => by
  have hlt := (List.getElem?_eq_some_iff.1 h).1
  have h1 : (b.objs.map (·.id))[j]? = some y.id := by rw [List.getElem?_map, e]; rfl
  have h2 : (b.objs.map (·.id))[k]? = some o.id := by rw [List.getElem?_map, h]; rfl
  have hne : y.id ≠ o.id := by
   intro e2
   rw [e2] at h1
   have := (List.getElem?_inj (by simpa using (by omega : j < b.objs.length)) hn).1 (h1.trans h2.symm)
   omega
  simpa using hne
 rw [tf, this]; omega
theorem xc {b : Bd} (h : cB bG b = true) {k : Nat} {o : Ob} (hk : b.objs[k]? = some o) : bG o = true ∧ (o.id, o.owner) ∈ aL b ∧ tf b o.id = k ∧ (o.owner = 0 ∨ o.owner = 1) := by
 obtain ⟨h1, h2, _⟩ := nw h
 have hm := List.mem_of_getElem? hk
 have ho := List.all_eq_true.1 h2 o hm
 simp only [ok1, Bool.and_eq_true, beq_iff_eq] at ho
 obtain ⟨v, hl, hown, _⟩ := ho
 have hn := sc h
 rw [← sF] at hn
 refine ⟨v, ?_, xB (jX h1).2 hk, rC v⟩
 cases e : bY (aL b) o.id with
 | none => rw [e] at hl; cases hl
 | some w =>
  rw [e] at hown
  have : w = o.owner := hown
  rw [this] at e
  exact (vD hn).1 e
theorem dQ {P : Program} {f : FuncId} {args : List Value} {H : Heap} {O : Go.Sx.Own} {S : Value → Heap → Prop} {d : Bool} {shp : Shp} {K : List Value → List (List Value) → Heap → Go.Sx.Own → Prop}
  (h : Triple P f args H O fun v H' O' => S v H' ∧ O' = O) (hk : ∀ v H', S v H' → Heap.le H H' → ∃ vs, shp.open v = some vs ∧ Ones vs ∧ K vs [] H' O) :
  er (fun H1 O1 R => Triple P f args H1 O1 R) d [] [] shp K H O := by
 intro _
 refine ⟨H, O, [], fun v H' O' => S v H' ∧ O' = O, ?_, h, ?_⟩
 ·cases d
  ·show Ghost H O H (O ++ [])
   rw [List.append_nil]; exact Ghost.refl _ _
  ·exact ⟨rfl, .inr ⟨rfl, rfl, rfl, fun v H' O' h => h.2⟩⟩
 ·rintro v H' O' ⟨hs, rfl⟩ hle
  obtain ⟨vs, h1, h2, h3⟩ := hk v H' hs hle
  exact ⟨vs, [], O', h1, h2, trivial, rfl, by rw [List.append_nil]; exact h3⟩
abbrev i64 (n : Int) : Prop := -9223372036854775808 ≤ n ∧ n ≤ 9223372036854775807
theorem fB (o : Ob) : Ones o.row := ⟨rfl, rfl, rfl, rfl, rfl, rfl, rfl, rfl, rfl, rfl, rfl, rfl, trivial⟩
theorem sZ (o : Ob) (id : Int) (H : Heap) (O : Go.Sx.Own) : RetO PP dG [.agg o.row.toArray, iV id] H O (iV (IntKind.i64.wrap (o.id - id))) := by
 refine lc (vs := o.row ++ [iV id]) (by kernel_rfl) (eV (fB o) ⟨rfl, trivial⟩) ?_
 simp only [iy]
 exact an fun r0 => ae (ab _ rfl (ak ⟨rfl, rfl⟩))
theorem rA {a id : Int} (h : i64 id) (ha : 1 ≤ a) (hb : a ≤ 500) : (IntKind.i64.wrap (a - id) == 0) = (a == id) := by
 rw [Bool.eq_iff_iff]
 simp only [beq_iff_eq, IntKind.wrap, IntKind.bits, IntKind.signed]
 simp
 omega
theorem pn {a id : Int} (ha : 1 ≤ a) (hb : a ≤ 500) (h1 : 1 ≤ id) (h2 : id ≤ 500) : IntKind.i64.wrap (a - id) = a - id := jo (by omega) (by omega)
theorem uD : ∀ {l : List Ob} {prev : Option Int}, yw prev l = true → ∀ {j k : Nat} {x y : Ob}, j < k → l[j]? = some x → l[k]? = some y → x.id < y.id
 | [], _, _, j, k, x, y, _, h, _ => by simp at h
 | a :: l, prev, h, j, k, x, y, hjk, hx, hy => by
  simp only [yw, Bool.and_eq_true] at h
  cases k with
  | zero => omega
  | succ k =>
   cases j with
   | zero =>
    simp at hx; subst hx
    have hm : y ∈ l := List.mem_of_getElem? (by simpa using hy)
    exact (jX h.2).1 y hm _ rfl
   | succ j => exact uD h.2 (j := j) (k := k) (by omega) (by simpa using hx) (by simpa using hy)
theorem AY {i n : Nat} (h : i + n < 2 ^ 63) : af (.bin .add .int) [iV (i : Int), iV (n : Int)] = some (iV ((i + n : Nat) : Int)) := yp h
theorem FR {n : Nat} (h : n < 2 ^ 63) : af (.conv .u64) [iV (n : Int)] = some (.int .u64 (n : Int)) := by
 simp only [af, IntKind.wrap, IntKind.bits, IntKind.signed]
 simp
 omega
theorem fs0 {n : Nat} (h : n < 2 ^ 63) : af (.conv .i64) [.int .u64 (n : Int)] = some (iV (n : Int)) := by
 simp only [af]
 rw [jo (by omega) (by omega)]
theorem BJ {n : Nat} (h : n < 2 ^ 63) : af (.bin .shr .int) [.int .u64 (n : Int), .int .u64 1] = some (.int .u64 ((n / 2 : Nat) : Int)) := by
 simp only [af, ct, fS]
 simp [IntKind.bits]
 rw [Int.fdiv_eq_ediv_of_nonneg]
 all_goals omega
theorem pj {H : Heap} {O : Go.Sx.Own} {v : Value} {l : List Ob} (h : RSl H O 12 v (l.map Ob.row)) {id : Int} (hid : i64 id) (hv : ∀ o ∈ l, 1 ≤ o.id ∧ o.id ≤ 500) (ho : yw none l = true) (hlen : l.length ≤ 1000000) :
  Triple PP aH [v, iV id, .func (.func dG) #[] #[]] H O fun r _ O' => (∃ (i : Nat) (f : Bool), r = .tuple #[iV i, .bool f] ∧ (f = true → ∃ o, l[i]? = some o ∧ o.id = id) ∧ (f = false → ∀ o ∈ l, o.id ≠ id)) ∧ O' = O := by
 refine bu (vs := [v, iV id, .func (.func dG) #[] #[]]) (by kernel_rfl) ⟨h.one, rfl, rfl, trivial⟩ ?_
 simp only [aG]
 have hl := h.len
 have hB := h.lenB
 rw [List.length_map] at hl hB
 refine ab _ hl ?_
 refine mA (fun vs H' O' => ∃ i j : Nat, vs = [iV i, iV j] ∧ i ≤ j ∧ j ≤ l.length ∧ O' = O ∧ Heap.le H H' ∧ (1 ≤ id → id ≤ 500 → (∀ (k : Nat) (o : Ob), k < i → l[k]? = some o → o.id < id) ∧ ∀ (k : Nat) (o : Ob), j ≤ k → l[k]? = some o → id ≤ o.id))
  (fun vs _ _ => match g vs 0, g vs 1 with | .int _ a, .int _ b => (b - a).toNat | _, _ => 0) ⟨0, l.length, rfl, Nat.zero_le _, Nat.le_refl _, rfl, Heap.le_refl _, fun _ _ => ⟨fun k o hk => absurd hk (Nat.not_lt_zero k), fun k o hk e => by
   have := (List.getElem?_eq_some_iff.1 e).1; omega⟩⟩ ?_
 rintro vs H' O' - - - ⟨i, j, rfl, hij, hj, rfl, hle, hinv⟩
 refine ab _ (bJ _ _) (au (fun hb => ?_) (fun hb => ?_))
 ·have hlt : i < j := by simpa using hb
  have hm : (i + j) / 2 < l.length := by omega
  obtain ⟨a, h1, h2, _, h3, h4⟩ := (h.le hle).idx .i64 ((i + j) / 2) (Ob.row l[(i + j) / 2]) (by simp [hm])
  refine ab _ (AY (by omega)) (ab _ (FR (by omega)) (ab _ (BJ (by omega)) (ab _ (fs0 (by omega)) (ab _ h1 (ba h2 h3 h4 ?_)))))
  refine fW rfl (eI fP (by decide)) (sZ l[(i + j) / 2] id H' O') rfl ⟨rfl, trivial⟩ fun H2 l2 => ab _ (bJ _ _) (au (fun hc => ?_) (fun hc => ?_))
  ·refine ab _ (bX (by omega)) (kj (by simp [Eqs]) ⟨(i + j) / 2 + 1, j, rfl, by omega, hj, rfl, Heap.le_trans hle l2, fun a1 a2 => ⟨fun k o hk e => ?_, (hinv a1 a2).2⟩⟩ ?_)
   ·have hc := of_decide_eq_true hc
    have hm1 := hv _ (List.getElem_mem hm)
    rw [pn hm1.1 hm1.2 a1 a2] at hc
    rcases Nat.lt_or_ge k ((i + j) / 2) with hk2 | hk2
    ·have := uD ho hk2 e (List.getElem?_eq_getElem hm); omega
    ·have : k = (i + j) / 2 := by omega
     subst this
     rw [List.getElem?_eq_getElem hm] at e
     obtain rfl := Option.some.inj e
     omega
   ·show (((j : Int) - (((i + j) / 2 + 1 : Nat) : Int)).toNat) < ((j : Int) - (i : Int)).toNat
    omega
  ·refine kj (by simp [Eqs]) ⟨i, (i + j) / 2, rfl, by omega, by omega, rfl, Heap.le_trans hle l2, fun a1 a2 => ⟨(hinv a1 a2).1, fun k o hk e => ?_⟩⟩ ?_
   ·have hc := of_decide_eq_false hc
    have hm1 := hv _ (List.getElem_mem hm)
    rw [pn hm1.1 hm1.2 a1 a2] at hc
    rcases Nat.lt_or_ge ((i + j) / 2) k with hk2 | hk2
    ·have := uD ho hk2 (List.getElem?_eq_getElem hm) e; omega
    ·have : k = (i + j) / 2 := by omega
     subst this
     rw [List.getElem?_eq_getElem hm] at e
     obtain rfl := Option.some.inj e
     omega
   ·show (((((i + j) / 2 : Nat) : Int) - (i : Int)).toNat) < ((j : Int) - (i : Int)).toNat
    omega
 ·have hie : i = j := by
   have : ¬ ((i : Int) < (j : Int)) := of_decide_eq_false hb
   omega
  subst hie
  refine ab _ (bJ _ _) (au (fun hb => ?_) (fun hb => ?_))
  ·have hlt : i < l.length := by simpa using hb
   obtain ⟨a, h1, h2, _, h3, h4⟩ := (h.le hle).idx .i64 i (Ob.row l[i]) (by simp [hlt])
   have hm1 := hv _ (List.getElem_mem hlt)
   refine ab _ h1 (ba h2 h3 h4 (fW rfl (eI fP (by decide)) (sZ l[i] id H' O') rfl ⟨rfl, trivial⟩ fun H2 l2 => ab _ (fU _ _) (ak ⟨⟨i, (IntKind.i64.wrap (l[i].id - id) == 0), rfl, fun hc => ?_, fun hc => ?_⟩, rfl⟩)))
   ·rw [rA hid hm1.1 hm1.2] at hc
    exact ⟨l[i], List.getElem?_eq_getElem hlt, by simpa using hc⟩
   ·rw [rA hid hm1.1 hm1.2] at hc
    have hne : l[i].id ≠ id := by simpa using hc
    intro o hmem e
    have hob := hv o hmem
    obtain ⟨i1, i2⟩ := hinv (by omega) (by omega)
    obtain ⟨k, hk⟩ := List.mem_iff_getElem?.1 hmem
    rcases Nat.lt_trichotomy k i with hki | hki | hki
    ·have := i1 k o hki hk; omega
    ·subst hki
     rw [List.getElem?_eq_getElem hlt] at hk
     obtain rfl := Option.some.inj hk
     exact hne e
    ·have := uD ho hki (List.getElem?_eq_getElem hlt) hk
     have := i2 i l[i] (Nat.le_refl _) (List.getElem?_eq_getElem hlt)
     omega
  ·have hge : l.length ≤ i := by simpa using hb
   refine ak ⟨⟨i, false, rfl, fun hc => (by cases hc), fun _ o hmem e => ?_⟩, rfl⟩
   have hob := hv o hmem
   obtain ⟨i1, _⟩ := hinv (by omega) (by omega)
   obtain ⟨k, hk⟩ := List.mem_iff_getElem?.1 hmem
   have := i1 k o (by have := (List.getElem?_eq_some_iff.1 hk).1; omega) hk
   omega
theorem we {b : Bd} (h : aC b = true) : (∀ o ∈ b.objs, 1 ≤ o.id ∧ o.id ≤ 500) ∧ yw none b.objs = true := by
 obtain ⟨p1, p2, _⟩ := nw (tl h).1
 refine ⟨fun o ho => ?_, p1⟩
 have := List.all_eq_true.1 p2 o ho
 simp only [ok1, Bool.and_eq_true] at this
 exact rD this.1
theorem rB {b : Bd} (h : aC b = true) : b.objs.length ≤ 1000000 := by
 simp only [aC, uJ, Bool.and_eq_true, Bool.not_eq_true', Bool.or_eq_false_iff, decide_eq_false_iff_not] at h
 have := h.2.2.2.2.1.1.1.2
 omega
theorem xA {b : Bd} {id : Int} (h : ∀ o ∈ b.objs, o.id ≠ id) : tf b id = -1 := by
 rcases nY (fun o : Ob => o.id == id) b.objs 0 (by omega) with ⟨e, _⟩ | ⟨k, o, e1, e2, _⟩
 ·exact e
 ·exact absurd (by simpa using e2) (h o (List.mem_of_getElem? e1))
theorem xz {b : Bd} {id : Int} (h : ¬ tf b id < 0) : ∃ (k : Nat) (o : Ob), b.objs[k]? = some o ∧ o.id = id ∧ tf b id = k := by
 rcases nY (fun o : Ob => o.id == id) b.objs 0 (by omega) with ⟨e, _⟩ | ⟨k, o, e1, e2, e3⟩
 ·exact absurd (show tf b id < 0 by rw [tf, e]; omega) h
 ·exact ⟨k, o, e1, by simpa using e2, by rw [tf, e3]; omega⟩
def eZ (b : Bd) (id : Int) : Int := if aC b = true then (if tf b id < 0 then 9 else 0) else 2
def lJ (b : Bd) (id : Int) : Int := if aC b = true then (if tf b id < 0 then 0 else tf b id) else 0
theorem yb {H : Heap} {O : Go.Sx.Own} {v : jK} {b : Bd} (h : BdR H O v b) {id : Int} (hid : i64 id) : RetO PP gJ [.agg (bq v b).toArray, iV id] H O (.tuple #[iV (lJ b id), iV (eZ b id)]) := by
 refine nb (vs := bq v b ++ [iV id]) (by kernel_rfl) (eV (bE h) ⟨rfl, trivial⟩) ?_
 simp only [kG]
 refine an fun r0 => ae (am (gA h) rfl ⟨rfl, trivial⟩ fun H1 l1 => ab _ (aI _) (au (fun hb => ak ⟨?_, rfl⟩) (fun hb => ae ?_)))
 ·have hf : aC b = false := tG hb
  simp [lJ, eZ, hf]
 have ht : aC b = true := tH hb
 obtain ⟨hv, ho⟩ := we ht
 refine dQ (pj (h.le l1).objs hid hv ho (rB ht)) ?_
 rintro _ H2 ⟨i, f, rfl, f1, f2⟩ l2
 refine ⟨[iV i, .bool f], rfl, ⟨rfl, rfl, trivial⟩, ab _ (aI _) (au (fun hb => ak ⟨?_, rfl⟩) (fun hb => ak ⟨?_, rfl⟩))⟩
 ·have hf : f = false := tG hb
  have := xA (f2 hf)
  simp [lJ, eZ, ht, this]
 ·have hf : f = true := tH hb
  obtain ⟨o, e1, rfl⟩ := f1 hf
  have := xB (jX ho).2 e1
  have hn : ¬ ((i : Int) < 0) := by omega
  simp only [lJ, eZ, ht, this, hn, if_true, if_false]
  rfl
theorem OIts.one {te ti : TypeId} {v : Value} {l : List It} {O : Go.Sx.Own} (h : OIts te ti v l O) : v.oneCell' = true := by
 obtain ⟨rows, A, Ts, _, h1, _⟩ := h; exact h1.one
def zO : Ob := ⟨0, 0, 0, 0, 0, 0, 0, 0, 0, false, false, false⟩
theorem xx {b : Bd} {id : Int} (h : (eZ b id != 0) = false) : aC b = true ∧ ∃ (k : Nat) (o : Ob), b.objs[k]? = some o ∧ o.id = id ∧ tf b id = k ∧ lJ b id = k := by
 unfold eZ at h
 by_cases hv : aC b = true
 ·rw [if_pos hv] at h
  by_cases hi : tf b id < 0
  ·rw [if_pos hi] at h; simp at h
  ·obtain ⟨k, o, e1, e2, e3⟩ := xz hi
   exact ⟨hv, k, o, e1, e2, e3, by rw [lJ, if_pos hv, if_neg hi, e3]⟩
 ·rw [if_neg hv] at h; simp at h
def tY (b : Bd) (id : Int) : Ob := if eZ b id != 0 then zO else b.objs.getD (tf b id).toNat zO
theorem Ap {b : Bd} {id : Int} (h : (eZ b id != 0) = false) {k : Nat} {o : Ob} (e : b.objs[k]? = some o) (hi : tf b id = k) : tY b id = o := by
 simp [tY, h, hi, e]
theorem FV {H : Heap} {O : Go.Sx.Own} {v : jK} {b : Bd} (h : BdR H O v b) {id : Int} (hid : i64 id) : RetO PP iI [.agg (bq v b).toArray, iV id] H O (.tuple #[.agg (tY b id).row.toArray, iV (eZ b id)]) := by
 refine o1 (vs := bq v b ++ [iV id]) (by kernel_rfl) (eV (bE h) ⟨rfl, trivial⟩) ?_
 simp only [mb]
 refine an fun r0 => an fun r1 => ae (am (yb h hid) rfl ⟨rfl, rfl, trivial⟩ fun H1 l1 => ab _ (sn _ _) (au (fun hb => ?_) (fun hb => ?_)))
 ·refine ae (ae ?_)
  refine ak ⟨?_, rfl⟩
  have e : tY b id = zO := by rw [tY, if_pos hb]
  rw [e]; rfl
 ·obtain ⟨_, k, o, e1, e2, e3, e4⟩ := xx hb
  obtain ⟨a, h1, h2, _, h3, h4⟩ := ((h.le l1).objs).idx .i64 k (Ob.row o) (by rw [List.getElem?_map, e1]; rfl)
  rw [e4]
  refine ae ?_
  refine ab _ h1 (ba h2 h3 h4 ?_)
  refine ae (ae ?_)
  refine ak ⟨?_, rfl⟩
  have hz : eZ b id = 0 := by simpa using hb
  rw [Ap hb e1 e3, hz]; rfl
theorem OwnB.perm {t : Tys} {w : jK} {b : Bd} {O O' : Go.Sx.Own} (h : OwnB t w b O) (hp : O'.Perm O) : OwnB t w b O' :=
 let ⟨Oo, A0, B0, C0, D0, A1, B1, C1, D1, Os, Oq, Oa, Obk, hq, h⟩ := h
 ⟨Oo, A0, B0, C0, D0, A1, B1, C1, D1, Os, Oq, Oa, Obk, hp.trans hq, h⟩
theorem OwnB.zero (t : Tys) : OwnB t IG zBd [] :=
 ⟨[], [], [], [], [], [], [], [], [], [], [], [], [], List.Perm.refl _, OSl.nil _ _, OSl.nil _ _, OSl.nil _ _, OSl.nil _ _, OSl.nil _ _, OSl.nil _ _, OSl.nil _ _, OSl.nil _ _, OSl.nil _ _,
  ⟨[], [], [], List.Perm.refl _, OSl.nil _ _, rfl, rfl, fun i r x T h => by simp at h⟩, ⟨[], [], [], List.Perm.refl _, OSl.nil _ _, rfl, rfl, fun i r x T h => by simp at h⟩, OSl.nil _ _, OSl.nil _ _⟩
def E3 (a b : Int) : Int := min 99 (max 0 a + max 0 b)
def xQ (n most : Int) : Int := max 0 (min n most)
theorem Gt (x y : Int) : af .min2 [iV x, iV y] = some (iV (min x y)) := by
 simp only [af]; congr 2; omega
theorem Et (x y : Int) : af .max2 [iV x, iV y] = some (iV (max x y)) := by
 simp only [af]; congr 2; omega
theorem AZ {x y : Int} (h1 : -9223372036854775808 ≤ x + y) (h2 : x + y < 9223372036854775808) : af (.bin .add .int) [iV x, iV y] = some (iV (x + y)) := by
 simp only [af, ct, bW, if_true]
 rw [jo (by omega) (by omega)]
theorem AV {H : Heap} {O : Go.Sx.Own} (p m : Int) : RetO PP oP [iV p, iV m] H O (iV (max 0 (min p m))) := by
 refine qz (vs := [iV p, iV m]) (by kernel_rfl) ⟨rfl, rfl, trivial⟩ ?_
 simp only [oL]
 exact ab _ (Gt _ _) (ab _ (Et _ _) (ak ⟨rfl, rfl⟩))
def smA (n : Int) : Prop := -1000000000 ≤ n ∧ n ≤ 1000000000
theorem GB {x y : Int} (hx : smA x) (hy : smA y) : af (.bin .add .int) [iV x, iV y] = some (iV (x + y)) := by
 obtain ⟨a, b⟩ := hx
 obtain ⟨c, d⟩ := hy
 exact AZ (by omega) (by omega)
theorem vS {H : Heap} {O : Go.Sx.Own} {a b : Int} (ha : smA a) (hb : smA b) : RetO PP qo [iV a, iV b] H O (iV (a + b)) := by
 refine rS (vs := [iV a, iV b]) (by kernel_rfl) ⟨rfl, rfl, trivial⟩ ?_
 simp only [ql]
 refine ab _ (GB ha hb) ?_
 refine ab _ (ij _ _) ?_
 refine ai ?_
 refine ab _ (ij _ _) ?_
 refine ai ?_
 refine ab _ (dt _ _) ?_
 refine ai ?_
 refine ab _ (nR _ _) ?_
 refine ai ?_
 refine ab _ (dt _ _) (au (fun h => ?_) (fun h => ?_))
 ·exfalso
  have h : ((decide (a > 0) && decide (b > 0)) && decide (a + b ≤ 0)) = true := h
  simp only [Bool.and_eq_true, decide_eq_true_eq] at h
  omega
 refine ab _ (bJ _ _) ?_
 refine ai ?_
 refine ab _ (bJ _ _) ?_
 refine ai ?_
 refine ab _ (dt _ _) ?_
 refine ai ?_
 refine ab _ (ik _ _) ?_
 refine ai ?_
 refine ab _ (dt _ _) (au (fun h => ?_) (fun h => ?_))
 ·exfalso
  have h : ((decide (a < 0) && decide (b < 0)) && decide (a + b ≥ 0)) = true := h
  simp only [Bool.and_eq_true, decide_eq_true_eq] at h
  omega
 exact ak ⟨rfl, rfl⟩
theorem xW {H : Heap} {O : Go.Sx.Own} {a b : Int} (ha : smA a) (hb : smA b) (m : Int) : RetO PP td [iV a, iV b, iV m] H O (iV (xQ (a + b) m)) := by
 refine tt (vs := [iV a, iV b, iV m]) (by kernel_rfl) ⟨rfl, rfl, rfl, trivial⟩ ?_
 simp only [s7]
 refine am (vS ha hb) rfl ⟨rfl, trivial⟩ fun H1 l1 => ?_
 refine am (AV (a + b) m) rfl ⟨rfl, trivial⟩ fun H2 l2 => ?_
 exact ak ⟨rfl, rfl⟩
theorem uV {H : Heap} {O : Go.Sx.Own} {a b : Int} (ha : smA a) (hb : smA b) : RetO PP kL [iV a, iV b] H O (iV (E3 a b)) := by
 refine mT (vs := [iV a, iV b]) (by kernel_rfl) ⟨rfl, rfl, trivial⟩ ?_
 simp only [kz]
 obtain ⟨c, d⟩ := ha
 obtain ⟨e, f⟩ := hb
 refine ab _ (Et _ _) (ab _ (Et _ _) ?_)
 refine am (xW (a := max 0 a) (b := max 0 b) (by constructor <;> omega) (by constructor <;> omega) 99) rfl ⟨rfl, trivial⟩ fun H1 l1 => ?_
 refine ak ⟨?_, rfl⟩
 show iV (xQ (max 0 a + max 0 b) 99) = iV (E3 a b)
 rw [xQ, E3]
 congr 1
 omega
end Go.Proofs.YtpcpmblfhlcmaaaGreatDoor
