/- Everything is in one place: the program's check. -/
import Derived.Test.YtjaegdkkiefchaaGreatDoorC5
import Derived.Test.YtjaegdkkiefchaaGreatDoorM2
namespace Go.Proofs.YtjaegdkkiefchaaGreatDoor
open Go Go.Sx
set_option maxRecDepth 100000
set_option maxHeartbeats 1000000

/-- The end of a function that owned more for itself. -/
theorem ret_to {P : Program} {v : Value} {H : Heap} {O X Ox : Own} {Q : Value → Heap → Own → Prop} (hO : O.Perm (X ++ Ox)) (h : Q v H Ox) : (Tree.ret v []).den P Q H O := by
  intro _
  exact ⟨H, Ox, (Ghost.perm hO).trans (Ghost.sub (List.sublist_append_right X Ox)), h⟩
theorem zeroI : ∀ w, (zeroValue Ty_int).run PP w = .ok (iV 0) w := by
  intro w
  have : (PP.info? Ty_int).bind (·.zero) = some (iV 0) := by kernel_rfl
  simp only [Option.bind_eq_some_iff] at this
  obtain ⟨i, hi, hz⟩ := this
  simp [zeroValue, typeInfo, hi, hz]
theorem mapII : PP.underlying Ty_map_int_int = some (.map Ty_int Ty_int) := by kernel_rfl
theorem intI : PP.underlying Ty_int = some (.int .i64) := by kernel_rfl
theorem c_placed_1 {m : Ents} {mv : Value} {Om : Own} (hm : OMap .i64 mv m Om) (r1 : Nat) (id player : Int) (H : Heap) (h1 : ((lookM m id).getD (iV 0)).oneCell' = true) :
    Triple PP F_board_placed_1 [iV id, iV player, .pointer (some ⟨r1, 0, none⟩)] H ((r1, .cells #[mv] Ty_map_int_int (0, 0)) :: Om) fun v _ O' => v = .bool (lookM m id).isNone ∧ ∃ Om', O' = (r1, .cells #[mv] Ty_map_int_int (0, 0)) :: Om' ∧ OMap .i64 mv (updM m id (iV player)) Om' := by
  refine run_board_placed_1 (vs := [iV id, iV player, .pointer (some ⟨r1, 0, none⟩)]) (by kernel_rfl) ⟨rfl, rfl, rfl, trivial⟩ ?_
  simp only [T_board_placed_1]
  have hr : ∀ (H' : Heap) (X : Own), Reads H' ((r1, .cells #[mv] Ty_map_int_int (0, 0)) :: X) (.pointer (some ⟨r1, 0, none⟩)) 1 [mv] := fun H' X => .inr ⟨⟨r1, 0, none⟩, #[mv], Ty_map_int_int, rfl, rfl, by simp, rfl, rfl⟩
  refine load_denR (hr _ _) rfl ⟨hm.one, trivial⟩ ?_
  refine call_lookup mapII intI zeroI hm (fun p hp => List.mem_cons_of_mem _ hp) id h1 ?_
  refine load_denR (hr _ _) rfl ⟨hm.one, trivial⟩ ?_
  refine call_update mapII intI hm (O2 := [(r1, .cells #[mv] Ty_map_int_int (0, 0))]) List.perm_append_comm id (iV player) ?_
  intro r Om' hm' _
  refine pure_den _ (not_eq' _) ?_
  intro _
  refine ⟨H, (r1, .cells #[mv] Ty_map_int_int (0, 0)) :: Om', Ghost.perm (show (Om' ++ [(r1, Obj.cells #[mv] Ty_map_int_int (0, 0))]).Perm ([(r1, Obj.cells #[mv] Ty_map_int_int (0, 0))] ++ Om') from List.perm_append_comm), ?_, Om', rfl, hm'⟩
  cases lookM m id <;> rfl

/-- len(m) -/
theorem call_mlen {t ty : TypeId} {m : Ents} {mv : Value} {Om O : Own} {H : Heap} {K : List Value → List (List Value) → Heap → Own → Prop} (hm : OMap .i64 mv m Om) (hsub : ∀ p ∈ Om, p ∈ O) (hk : K [iV m.length] [] H O) (ht : (match PP.underlying t with | some (.map _ _) => true | _ => false) = true := by kernel_rfl) :
    CallD (fun H1 O1 R => OpTriple PP ((PrimOp.bi .len #[t] ty).sem [mv]) H1 O1 R) false [] [] .one K H O := by
  refine prim_rd (v := iV m.length) ?_ rfl ⟨rfl, trivial⟩ hk
  intro w F hmo
  obtain ⟨r, es, clock, rfl, rfl, he⟩ := hm
  have hrow := (hmo.own (r, .map es clock) (List.mem_append_left _ (hsub _ (by simp)))).1
  have hg : (getObj r).run PP w = .ok (.map es clock) w := by simp [getObj, Sem.run, hrow]
  have hlen : es.size = m.length := by have := congrArg List.length he; simpa using this
  cases hu : PP.underlying t with
  | none => rw [hu] at ht; cases ht
  | some d =>
    cases d with
    | map kt et =>
      have : (Builtin.len_ #[t] ty #[.map (some r)]).run PP w = .ok (iV m.length) w := by
        simp only [Builtin.len_]
        simp [run_underlying hu, hg, hlen, goInt]
      simp only [PrimOp.sem, builtin, Sem.run_bind]
      rw [this]; rfl
    | _ => rw [hu] at ht; cases ht

/-- The ids of one list are put into the map. -/
theorem put_den {lab key : Nat} {lv mv n0 : Value} {l : List Int} {pl : Int} {r1 : Nat} {H : Heap} {O Om Ox : Own} {pre : List (Int × Int)} {Q : Value → Heap → Own → Prop} {rest : List Value → Tree}
    {eqs : (List Value → Heap → Own → Prop) → List Value → Value → List Value → List Value → List (List Value) → Value → Value → List (List Value × List Value)}
    (hl : RSl H Ox 1 lv (ints l)) (hn : n0 = iV l.length) (hm : OMap .i64 mv (entsOf pre) Om) (hO : O.Perm (Om ++ Ox)) (hnd : (pre.map (·.1)).Nodup)
    (heq : ∀ C a b c d e f g, Eqs (eqs C a b c d e f g))
    (bad : ∀ H', Heap.le H H' → ¬ ((pre ++ l.map fun i => (i, pl)).map (·.1)).Nodup → Q (.bool false) H' Ox)
    (good : ∀ H' O' Om', Heap.le H H' → ((pre ++ l.map fun i => (i, pl)).map (·.1)).Nodup → OMap .i64 mv (entsOf (pre ++ l.map fun i => (i, pl))) Om' → O'.Perm (Om' ++ Ox) → (rest [iV l.length, mv]).den PP Q H' O') :
    (Tree.loop lab key [iV 0, mv] fun C l3 =>
      .pure [] (.bin .lss .int) [(g l3 0), n0] fun v4 =>
      .br v4 (
        .pure [] (.idx 1) [lv, (g l3 0)] fun v5 =>
        .load [] v5 1 fun l6 =>
        .call false F_board_placed_1 [(g l6 0), iV pl, (.pointer (some ⟨r1, 0, none⟩))] [] [⟨r1, Ty_map_int_int, [(g l3 1)]⟩] .one fun l7 c7 =>
        .pure [] .not [(g l7 0)] fun v8 =>
        .br v8 (
          .ret (.bool false) []) (
          .pure [] (.bin .add .int) [(g l3 0), iV 1] fun v9 =>
          .cont lab C [v9, (g (c7.getD 0 []) 0)] (eqs C l3 v5 l6 l7 c7 v8 v9))) (rest l3)).den PP Q H O := by
  subst hn
  refine countX_den l.length (fun i xs H' O' => xs = [mv] ∧ Heap.le H H' ∧ ∃ Om', O'.Perm (Om' ++ Ox) ∧ OMap .i64 mv (entsOf (pre ++ (l.take i).map fun i => (i, pl))) Om' ∧ ((pre ++ (l.take i).map fun i => (i, pl)).map (·.1)).Nodup)
    ⟨rfl, Heap.le_refl H, Om, hO, by simpa using hm, by simpa using hnd⟩ ?_
  rintro i xs H' O' hi - - - ⟨rfl, hle, Om', hO', hm', hnd'⟩
  refine pure_den _ (lss_eq _ _) (br_den (fun hb => ?_) (fun hb => ?_))
  · have hlt : i < l.length := by simpa using hb
    obtain ⟨a, h1, h2, _, h3, h4⟩ := ((hl.le hle).own (fun p hp => hO'.mem_iff.2 (List.mem_append_right Om' hp))).idx .i64 i [iV l[i]] (by simp [ints, hlt])
    refine pure_den _ h1 (load_denR h2 h3 h4 ?_)
    have hone : ((lookM (entsOf (pre ++ (l.take i).map fun i => (i, pl))) l[i]).getD (iV 0)).oneCell' = true := by
      rw [lookM_ents]; cases lookI (pre ++ (l.take i).map fun i => (i, pl)) l[i] <;> rfl
    have hc := c_placed_1 hm' r1 l[i] pl H' hone
    intro _
    refine ⟨H', Om', Ox, _, Ghost.perm hO', hc, ?_⟩
    rintro v H2 O2 ⟨rfl, Om2, rfl, hm2⟩ hle2
    refine ⟨[_], [[mv]], Om2, rfl, ⟨rfl, trivial⟩, ⟨rfl, ⟨hm2.one, trivial⟩, trivial⟩, rfl, ?_⟩
    refine pure_den _ (not_eq' _) (br_den (fun hb => ?_) (fun hb => ?_))
    · have hin : l[i] ∈ (pre ++ (l.take i).map fun i => (i, pl)).map (·.1) := by
        rw [lookM_ents] at hb
        simp only [Bool.not_eq_true', Option.isNone_map] at hb
        rcases Classical.em (l[i] ∈ (pre ++ (l.take i).map fun i => (i, pl)).map (·.1)) with h | h
        · exact h
        · rw [lookI_none.2 h] at hb; cases hb
      refine ret_to (List.Perm.refl _) (bad H2 (Heap.le_trans hle hle2) ?_)
      intro hnd2
      have e : pre ++ l.map (fun i => (i, pl)) = (pre ++ (l.take i).map fun i => (i, pl)) ++ ((l[i], pl) :: (l.drop (i + 1)).map fun i => (i, pl)) := by
        rw [List.append_assoc, ← List.map_cons (f := fun i => (i, pl)), ← List.drop_eq_getElem_cons hlt, ← List.map_append, List.take_append_drop]
      rw [e, List.map_append, List.map_cons] at hnd2
      exact (List.nodup_append.1 hnd2).2.2 _ hin _ (List.mem_cons_self) rfl
    · have hnin : l[i] ∉ (pre ++ (l.take i).map fun i => (i, pl)).map (·.1) := by
        rw [lookM_ents] at hb
        simp only [Bool.not_eq_false', Option.isNone_map, Option.isNone_iff_eq_none] at hb
        exact lookI_none.1 hb
      have e : pre ++ (l.take (i + 1)).map (fun i => (i, pl)) = (pre ++ (l.take i).map fun i => (i, pl)) ++ [(l[i], pl)] := by
        rw [List.take_add_one, List.getElem?_eq_getElem hlt, List.map_append, List.append_assoc]; rfl
      refine pure_den _ (add_one (by have := hl.lenB; simp [ints] at this; omega)) (countX_cont (heq _ _ _ _ _ _ _ _) hlt ⟨rfl, Heap.le_trans hle hle2, Om2, List.Perm.refl _, ?_, ?_⟩)
      · rw [e, ← upd_ents hnin]; exact hm2
      · rw [e, List.map_append, List.nodup_append]
        refine ⟨hnd', by simp, ?_⟩
        intro x hx y hy
        simp only [List.map_cons, List.map_nil, List.mem_singleton] at hy
        subst hy
        rintro rfl
        exact hnin hx
  · have hie : i = l.length := by have : ¬ ((i : Int) < (l.length : Int)) := by simpa using hb
                                  omega
    subst hie
    rw [List.take_length] at hm' hnd'
    exact good H' O' Om' hle hnd' hm' hO'

/-- A seat's four lists lie in its cells. -/
theorem c_lists (r : Nat) (o : Nat) (H : Heap) (O : Own) : RetO PP F_board_lists [.pointer (some ⟨r, o, none⟩)] H O (.agg #[.pointer (some ⟨r, o + 5, none⟩), .pointer (some ⟨r, o + 6, none⟩), .pointer (some ⟨r, o + 7, none⟩), .pointer (some ⟨r, o + 8, none⟩)]) := by
  refine run_board_lists (vs := [.pointer (some ⟨r, o, none⟩)]) (by kernel_rfl) ⟨rfl, trivial⟩ ?_
  simp only [T_board_lists]
  refine newbox_den fun r0 => chkP_den rfl (chkP_den rfl (chkP_den rfl (chkP_den rfl (chkP_den rfl (chkP_den rfl (chkP_den rfl (chkP_den rfl (chkN_den (chkN_den (ret_denO ⟨?_, rfl⟩))))))))))
  simp only [g, List.getD_eq_getElem?_getD, List.getElem?_cons_zero, Option.getD_some, ptrAdd, add_none]

theorem boolAnd3 {a b c : Bool} (h : a = true) : (a && (b && c)) = (b && c) := by rw [h]; rfl
theorem c_placed {H : Heap} {O : Own} {v : BV12} {b : Bd} (h : BdR H O v b) : RetO PP F_board_placed [.agg (boardC v b).toArray] H O (.bool (placedB validO b)) := by
  refine run_board_placed (vs := boardC v b) (by kernel_rfl) (boardC_ones h) ?_
  simp only [T_board_placed]
  have len1 : ∀ {H' : Heap} {O' : Own} {w : Value} {l : List Int}, RSl H' O' 1 w (ints l) → evalPure .len [w] = some (iV l.length) := fun h => by have := h.len; rwa [ints, List.length_map] at this
  have failB : ∀ {l : List (Int × Int)}, (∃ r, pairsB b = l ++ r) → ¬ (l.map (·.1)).Nodup → (Value.bool false : Value) = .bool (placedB validO b) := by
    rintro l ⟨r, hr⟩ hn
    have : ¬ ((pairsB b).map (·.1)).Nodup := by
      rw [hr, List.map_append]
      exact fun h => hn (List.nodup_append.1 h).1
    simp only [placedB, this, decide_false, Bool.false_and]
  refine newbox_den fun r0 => call_make (kd := .i64) fun mv O1 hm => newbox_den fun r1 => chkN_den (call_retO (c_lists r0 1 H _) rfl ⟨rfl, rfl, rfl, rfl, trivial⟩ fun H1 l1 => ?_)
  refine chkV_den (chkV_den (chkV_den (chkV_den (chkN_den (pure_den _ (len1 h.s0.lib) ?_)))))
  replace h := h.le l1
  refine put_den (mv := mv) (pre := []) (Ox := O) h.s0.lib rfl hm (List.Perm.refl _) (by simp) (by intros; simp [Eqs]) (fun H' _ hn => ⟨failB (l := [] ++ b.s0.lib.map fun i => (i, 0)) ⟨_, by simp [pairsB, pairsS]; rfl⟩ hn, rfl⟩) ?_
  intro H2 O2 Om2 l2 nd2 hm2 hO2
  replace h := h.le l2
  refine chkN_den (pure_den _ (len1 h.s0.hand) ?_)
  refine put_den (mv := mv) (pre := [] ++ b.s0.lib.map fun i => (i, 0)) (Ox := O) h.s0.hand rfl hm2 hO2 nd2 (by intros; simp [Eqs]) (fun H' _ hn => ⟨failB ⟨_, by simp [pairsB, pairsS]; rfl⟩ hn, rfl⟩) ?_
  intro H3 O3 Om3 l3 nd3 hm3 hO3
  replace h := h.le l3
  refine chkN_den (pure_den _ (len1 h.s0.field) ?_)
  refine put_den (mv := mv) (Ox := O) h.s0.field rfl hm3 hO3 nd3 (by intros; simp [Eqs]) (fun H' _ hn => ⟨failB ⟨_, by simp [pairsB, pairsS]; rfl⟩ hn, rfl⟩) ?_
  intro H4 O4 Om4 l4 nd4 hm4 hO4
  replace h := h.le l4
  refine chkN_den (pure_den _ (len1 h.s0.grave) ?_)
  refine put_den (mv := mv) (Ox := O) h.s0.grave rfl hm4 hO4 nd4 (by intros; simp [Eqs]) (fun H' _ hn => ⟨failB ⟨_, by simp [pairsB, pairsS]; rfl⟩ hn, rfl⟩) ?_
  intro H5 O5 Om5 l5 nd5 hm5 hO5
  replace h := h.le l5
  refine call_retO (c_lists r0 15 H5 _) rfl ⟨rfl, rfl, rfl, rfl, trivial⟩ fun H6 l6 => ?_
  replace h := h.le l6
  refine chkV_den (chkV_den (chkV_den (chkV_den (chkN_den (pure_den _ (len1 h.s1.lib) ?_)))))
  refine put_den (mv := mv) (Ox := O) h.s1.lib rfl hm5 hO5 nd5 (by intros; simp [Eqs]) (fun H' _ hn => ⟨failB ⟨_, by simp [pairsB, pairsS]; rfl⟩ hn, rfl⟩) ?_
  intro H7 O7 Om7 l7 nd7 hm7 hO7
  replace h := h.le l7
  refine chkN_den (pure_den _ (len1 h.s1.hand) ?_)
  refine put_den (mv := mv) (Ox := O) h.s1.hand rfl hm7 hO7 nd7 (by intros; simp [Eqs]) (fun H' _ hn => ⟨failB ⟨_, by simp [pairsB, pairsS]; rfl⟩ hn, rfl⟩) ?_
  intro H8 O8 Om8 l8 nd8 hm8 hO8
  replace h := h.le l8
  refine chkN_den (pure_den _ (len1 h.s1.field) ?_)
  refine put_den (mv := mv) (Ox := O) h.s1.field rfl hm8 hO8 nd8 (by intros; simp [Eqs]) (fun H' _ hn => ⟨failB ⟨_, by simp [pairsB, pairsS]; rfl⟩ hn, rfl⟩) ?_
  intro H9 O9 Om9 l9 nd9 hm9 hO9
  replace h := h.le l9
  refine chkN_den (pure_den _ (len1 h.s1.grave) ?_)
  refine put_den (mv := mv) (Ox := O) h.s1.grave rfl hm9 hO9 nd9 (by intros; simp [Eqs]) (fun H' _ hn => ⟨failB ⟨_, by simp [pairsB, pairsS]; rfl⟩ hn, rfl⟩) ?_
  intro H10 O10 Om10 l10 nd10 hm10 hO10
  replace h := h.le l10
  -- the seats' pairs
  have hpre : ∃ pre, pre = pairsS b.s0 0 ++ pairsS b.s1 1 := ⟨_, rfl⟩
  obtain ⟨pre, hpe⟩ := hpre
  have e10 : ([] ++ b.s0.lib.map (fun i => (i, (0 : Int))) ++ b.s0.hand.map (fun i => (i, 0)) ++ b.s0.field.map (fun i => (i, 0)) ++ b.s0.grave.map (fun i => (i, 0)) ++ b.s1.lib.map (fun i => (i, 1)) ++ b.s1.hand.map (fun i => (i, 1)) ++ b.s1.field.map (fun i => (i, 1)) ++ b.s1.grave.map (fun i => (i, 1))) = pre := by
    rw [hpe]; simp [pairsS]
  rw [e10] at nd10 hm10
  have hpb : pairsB b = pre ++ owned b.stack := by rw [hpe]; simp [pairsB]
  refine call_make (kd := .i64) fun cv Oc0 hc0 => chkN_den (pure_den _ (ItsR.len h.stack) ?_)
  have stk := h.stack
  obtain ⟨rows, hrs, hrl, hit⟩ := stk
  -- the stack
  refine countX_den b.stack.length (fun i xs H' O' => xs = [mv] ∧ Heap.le H10 H' ∧ ∃ Om Oc, O'.Perm (Om ++ (Oc ++ O)) ∧ OMap .i64 mv (entsOf (pre ++ owned (b.stack.take i))) Om ∧ OMap .i64 cv (entsOf (carded (b.stack.take i))) Oc ∧ ((pre ++ owned (b.stack.take i)).map (·.1)).Nodup)
    ⟨rfl, Heap.le_refl _, Om10, Oc0, ?_, by simpa [owned, cardsOn] using hm10, by simpa [carded, cardsOn, entsOf] using hc0, by simpa [owned, cardsOn] using nd10⟩ ?_
  · exact ((hO10.append_left Oc0).trans (by rw [← List.append_assoc, ← List.append_assoc]; exact List.perm_append_comm.append_right O))
  rintro i xs H11 O11 hi - - - ⟨rfl, l11, Om, Oc, hO, hm, hc, hnd⟩
  refine pure_den _ (lss_eq _ _) (br_den (fun hb => ?_) (fun hb => ?_))
  · have hlt : i < b.stack.length := by simpa using hb
    have hsub : ∀ p ∈ O, p ∈ O11 := fun p hp => hO.mem_iff.2 (by simp [hp])
    obtain ⟨a, h1, h2, _, h3, h4⟩ := ((hrs.le l11).own hsub).idx .i64 i rows[i] (by simp [hrl, hlt])
    obtain ⟨s, hrow, _⟩ := hit i rows[i] b.stack[i] (by simp [hrl, hlt]) (by simp [hlt])
    rw [hrow] at h2 h3 h4
    have etk : b.stack.take (i + 1) = b.stack.take i ++ [b.stack[i]] := by rw [List.take_add_one, List.getElem?_eq_getElem hlt]; rfl
    refine pure_den _ h1 (load_denR h2 h3 h4 (newbox_den fun r2 => chkN_den (chkN_den (pure_den _ (lss_eq _ _) (br_den (fun hb => ?_) (fun hb => ?_))))))
    · -- a card on the stack
      have htr : b.stack[i].trig < 0 := by simpa using hb
      have eow : owned (b.stack.take (i + 1)) = owned (b.stack.take i) ++ [(b.stack[i].id, b.stack[i].player)] := by
        rw [etk, owned_append, owned_one htr]
      have eca : carded (b.stack.take (i + 1)) = carded (b.stack.take i) ++ [(b.stack[i].id, b.stack[i].card)] := by
        rw [etk, carded_append, carded_one htr]
      have hone : ((lookM (entsOf (pre ++ owned (b.stack.take i))) b.stack[i].id).getD (iV 0)).oneCell' = true := by
        rw [lookM_ents]; cases lookI (pre ++ owned (b.stack.take i)) b.stack[i].id <;> rfl
      refine chkN_den (chkN_den ?_)
      have hcall := c_placed_1 hm r1 b.stack[i].id b.stack[i].player H11 hone
      intro _
      refine ⟨H11, Om, Oc ++ O, _, Ghost.perm hO, hcall, ?_⟩
      rintro w H12 O12 ⟨rfl, Om2, rfl, hm2⟩ l12
      refine ⟨[_], [[mv]], Om2, rfl, ⟨rfl, trivial⟩, ⟨rfl, ⟨hm2.one, trivial⟩, trivial⟩, rfl, ?_⟩
      refine pure_den _ (not_eq' _) (br_den (fun hb => ?_) (fun hb => chkN_den (chkN_den ?_)))
      · have hin : b.stack[i].id ∈ (pre ++ owned (b.stack.take i)).map (·.1) := by
          rw [lookM_ents] at hb
          simp only [Bool.not_eq_true', Option.isNone_map] at hb
          rcases Classical.em (b.stack[i].id ∈ (pre ++ owned (b.stack.take i)).map (·.1)) with h | h
          · exact h
          · rw [lookI_none.2 h] at hb; cases hb
        refine ret_to (X := Om2 ++ Oc) (by rw [List.append_assoc]) ⟨failB (l := pre ++ owned (b.stack.take (i + 1))) ⟨owned (b.stack.drop (i + 1)), ?_⟩ ?_, rfl⟩
        · rw [hpb, List.append_assoc, ← owned_append, List.take_append_drop]
        · rw [eow, ← List.append_assoc, List.map_append]
          intro hn
          exact (List.nodup_append.1 hn).2.2 _ hin _ (by simp) rfl
      · have hnin : b.stack[i].id ∉ (pre ++ owned (b.stack.take i)).map (·.1) := by
          rw [lookM_ents] at hb
          simp only [Bool.not_eq_false', Option.isNone_map, Option.isNone_iff_eq_none] at hb
          exact lookI_none.1 hb
        have hninc : b.stack[i].id ∉ (carded (b.stack.take i)).map (·.1) := by
          intro hin
          refine hnin ?_
          rw [List.map_append]
          refine List.mem_append_right _ ?_
          simpa [carded, owned] using hin
        refine call_update mapII intI hc (O2 := Om2 ++ O) ?_ b.stack[i].id (iV b.stack[i].card) ?_
        · rw [← List.append_assoc, ← List.append_assoc]
          exact List.perm_append_comm.append_right O
        intro w2 Oc2 hc2 _
        refine pure_den _ (add_one (by have := hrs.lenB; omega)) (countX_cont (by simp [Eqs]) hlt ⟨rfl, Heap.le_trans l11 l12, Om2, Oc2, ?_, ?_, ?_, ?_⟩)
        · rw [← List.append_assoc, ← List.append_assoc]
          exact List.perm_append_comm.append_right O
        · rw [eow, ← List.append_assoc, ← upd_ents hnin]; exact hm2
        · rw [eca, ← upd_ents hninc]; exact hc2
        · rw [eow, ← List.append_assoc, List.map_append, List.nodup_append]
          refine ⟨hnd, by simp, ?_⟩
          intro x hx y hy
          simp only [List.map_cons, List.map_nil, List.mem_singleton] at hy
          subst hy
          rintro rfl
          exact hnin hx
    · have htr : ¬ b.stack[i].trig < 0 := by simpa using hb
      have eow : owned (b.stack.take (i + 1)) = owned (b.stack.take i) := by
        rw [etk, owned_append, owned_none htr, List.append_nil]
      have eca : carded (b.stack.take (i + 1)) = carded (b.stack.take i) := by
        rw [etk, carded_append, carded_none htr, List.append_nil]
      refine pure_den _ (add_one (by have := hrs.lenB; omega)) (countX_cont (by simp [Eqs]) hlt ⟨rfl, l11, Om, Oc, hO, ?_, ?_, ?_⟩)
      · rw [eow]; exact hm
      · rw [eca]; exact hc
      · rw [eow]; exact hnd
  · have hie : i = b.stack.length := by
      have : ¬ ((i : Int) < (b.stack.length : Int)) := by simpa using hb
      omega
    subst hie
    rw [List.take_length] at hm hc hnd
    rw [← hpb] at hm hnd
    replace h := h.le l11
    have lo := h.objs.len
    rw [List.length_map] at lo
    have hsub : ∀ p ∈ O, p ∈ O11 := fun p hp => hO.mem_iff.2 (by simp [hp])
    have hsubm : ∀ p ∈ Om, p ∈ O11 := fun p hp => hO.mem_iff.2 (by simp [hp])
    have hsubc : ∀ p ∈ Oc, p ∈ O11 := fun p hp => hO.mem_iff.2 (by simp [hp])
    have hpl : placedB validO b = (objsGo validO (pairsB b) (carded b.stack) none b.objs && decide ((pairsB b).length = b.objs.length)) := by
      simp only [placedB, hnd, decide_true, Bool.true_and]
    refine chkN_den (pure_den _ lo ?_)
    refine count_den b.objs.length (fun i H' O' => O' = O11 ∧ Heap.le H11 H' ∧ objsGo validO (pairsB b) (carded b.stack) none b.objs = objsGo validO (pairsB b) (carded b.stack) (prevId b.objs i) (b.objs.drop i)) ⟨rfl, Heap.le_refl _, by simp [prevId]⟩ ?_
    rintro i H12 O12 hi - ⟨rfl, l12, hor⟩
    refine pure_den _ (lss_eq _ _) (br_den (fun hb => ?_) (fun hb => ?_))
    · have hlt : i < b.objs.length := by simpa using hb
      obtain ⟨a, h1, h2, _, h3, h4⟩ := ((h.objs.le l12).own hsub).idx .i64 i (Ob.row b.objs[i]) (by simp [hlt])
      refine pure_den _ h1 (load_denR h2 h3 h4 (newbox_den fun r3 => chkN_den (chkN_den (chkN_den ?_))))
      have hone : ((lookM (entsOf (pairsB b)) b.objs[i].id).getD (iV 0)).oneCell' = true := by
        rw [lookM_ents]; cases lookI (pairsB b) b.objs[i].id <;> rfl
      have honec : ((lookM (entsOf (carded b.stack)) b.objs[i].id).getD (iV 0)).oneCell' = true := by
        rw [lookM_ents]; cases lookI (carded b.stack) b.objs[i].id <;> rfl
      refine call_lookup mapII intI zeroI hm hsubm _ hone (chkN_den (call_lookup mapII intI zeroI hc hsubc _ honec (chkN_den ?_)))
      have g1 : (lookM (entsOf (pairsB b)) b.objs[i].id).getD (iV 0) = iV ((lookI (pairsB b) b.objs[i].id).getD 0) := by rw [lookM_ents]; cases lookI (pairsB b) b.objs[i].id <;> rfl
      have g2 : (lookM (entsOf (carded b.stack)) b.objs[i].id).getD (iV 0) = iV ((lookI (carded b.stack) b.objs[i].id).getD 0) := by rw [lookM_ents]; cases lookI (carded b.stack) b.objs[i].id <;> rfl
      have g3 : (lookM (entsOf (pairsB b)) b.objs[i].id).isSome = !(lookI (pairsB b) b.objs[i].id).isNone := by rw [lookM_ents]; cases lookI (pairsB b) b.objs[i].id <;> rfl
      have g4 : (lookM (entsOf (carded b.stack)) b.objs[i].id).isSome = (lookI (carded b.stack) b.objs[i].id).isSome := by rw [lookM_ents]; cases lookI (carded b.stack) b.objs[i].id <;> rfl
      rw [g1, g2, g3, g4]
      refine call_retO (c_object_Valid b.objs[i] H12 O12) rfl ⟨rfl, trivial⟩ fun H13 l13 => ?_
      have l13' := Heap.le_trans l12 l13
      -- the object before it
      have hp : ∃ (pv : Value) (x : Int), pv.oneCell' = true ∧ (0 < i → evalPure (.idx 12) [v.o, iV ((i : Int) - 1)] = some pv ∧ isPtr pv = true ∧ Reads H13 O12 pv 1 [iV x]) ∧ prevBad (prevId b.objs i) b.objs[i].id = (decide ((i : Int) > 0) && decide (x ≥ b.objs[i].id)) := by
        rcases Nat.eq_zero_or_pos i with rfl | hpos
        · exact ⟨iV 0, 0, rfl, fun h => absurd h (Nat.lt_irrefl 0), by simp [prevId, prevBad]⟩
        · obtain ⟨j, rfl⟩ : ∃ j, i = j + 1 := ⟨i - 1, by omega⟩
          have hj : j < b.objs.length := by omega
          obtain ⟨a, k1, k2, k3, _⟩ := ((h.objs.le l13').own hsub).idx .i64 j (Ob.row b.objs[j]) (by simp [hj])
          refine ⟨.pointer (some a), b.objs[j].id, rfl, fun _ => ⟨?_, rfl, ?_⟩, ?_⟩
          · have e : ((j + 1 : Nat) : Int) - 1 = (j : Int) := by omega
            rw [e]; exact k1
          · have := k3 0 1 (by omega)
            have e : ptrAdd (.pointer (some a)) 0 = .pointer (some a) := by simp [ptrAdd, Addr.add]
            rwa [e] at this
          · rw [prev_succ hj]
            have : ((j + 1 : Nat) : Int) > 0 := by omega
            simp only [prevBad, this, decide_true, Bool.true_and]
      obtain ⟨pv, x, hpone, hpv, hprev⟩ := hp
      have hiB : (i : Int) + 1 < 9223372036854775808 := by have := h.objs.lenB; simp at this; omega
      have hsub1 : evalPure (.bin .sub .int) [iV i, iV 1] = some (iV ((i : Int) - 1)) := by
        simp only [evalPure, evalBin, evalInt, if_true]
        rw [wrap_id (by omega) (by omega)]
      have hon : ∀ {u : Bool}, On [((.bool (decide ((i : Int) > 0)) : Value), true), (.bool u, false)] → 0 < i := fun h => by
        have := h.1
        simp at this
        omega
      refine pure_den _ (not_eq' _) (chkV_den (pure_den _ (gtr_eq _ _) ?_))
      repeat (first | refine chkN_den ?_ | refine chkV_den ?_ | refine pure_den _ hsub1 ?_)
      refine ⟨pv, fun ho => (hpv (hon ho)).1, .inr hpone, ?_⟩
      refine ⟨fun ho => (hpv (hon ho)).2.1, ?_⟩
      repeat (first | refine chkN_den ?_ | refine chkV_den ?_)
      refine ⟨[iV x], rfl, ⟨rfl, trivial⟩, fun ho => (hpv (hon ho)).2.2, ?_⟩
      repeat (first | refine chkN_den ?_ | refine chkV_den ?_ | refine newbox_den fun _ => ?_ | refine pure_den _ (lss_eq _ _) ?_ | refine pure_den _ (gtr_eq _ _) ?_ | refine pure_den _ (leq_eq _ _) ?_ | refine pure_den _ (geq_eq _ _) ?_ | refine pure_den _ (eql_eq _ _) ?_ | refine pure_den _ (neq_eq _ _) ?_ | refine pure_den _ (pick_and _ _) ?_ | refine pure_den _ (pick_or _ _) ?_ | refine pure_den _ (not_eq' _) ?_ | refine pure_den _ (beql_eq _ _) ?_ | refine pure_den _ (bneq_eq _ _) ?_)
      have hbad : objBad (pairsB b) (carded b.stack) (prevId b.objs i) (validO b.objs[i]) b.objs[i] =
          ((((!validO b.objs[i] || (decide ((i : Int) > 0) && decide (x ≥ b.objs[i].id))) || (lookI (pairsB b) b.objs[i].id).isNone) || ((lookI (pairsB b) b.objs[i].id).getD 0 != b.objs[i].owner)) || ((lookI (carded b.stack) b.objs[i].id).isSome && ((lookI (carded b.stack) b.objs[i].id).getD 0 != b.objs[i].card))) := by
        unfold objBad; rw [hprev]
      have hstep : objsGo validO (pairsB b) (carded b.stack) (prevId b.objs i) (b.objs.drop i) = (!objBad (pairsB b) (carded b.stack) (prevId b.objs i) (validO b.objs[i]) b.objs[i] && objsGo validO (pairsB b) (carded b.stack) (some b.objs[i].id) (b.objs.drop (i + 1))) := by
        rw [List.drop_eq_getElem_cons hlt, objsGo]
      refine br_den (fun hb => ?_) (fun hb => ?_)
      · refine ret_to (X := Om ++ Oc) (by rw [List.append_assoc]; exact hO) ⟨?_, rfl⟩
        rw [hpl, hor, hstep, hbad]
        simp only [Bool.not_not] at hb
        rw [hb]; rfl
      · refine pure_den _ (add_one (by omega)) (count_cont (by simp [Eqs]) hlt ⟨rfl, l13', ?_⟩)
        simp only [Bool.not_not] at hb
        rw [hor, hstep, hbad, hb, prev_succ hlt]; rfl
    · have hie : i = b.objs.length := by
        have : ¬ ((i : Int) < (b.objs.length : Int)) := by simpa using hb
        omega
      subst hie
      rw [List.drop_length] at hor
      refine chkN_den ?_
      refine call_mlen hm hsubm (chkN_den (pure_den _ lo (pure_den _ (eql_eq _ _) (ret_to (X := Om ++ Oc) (by rw [List.append_assoc]; exact hO) ⟨?_, rfl⟩))))
      rw [hpl, hor]
      simp only [objsGo, Bool.true_and, entsOf, List.length_map]
      congr 1
      rw [Bool.eq_iff_iff]
      simp only [beq_iff_eq, decide_eq_true_eq]
      omega
end Go.Proofs.YtjaegdkkiefchaaGreatDoor
