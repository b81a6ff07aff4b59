/- New boards: the program's and the reference's. -/
import Derived.Test.YtjaegdkkiefchaaGreatDoorC4
namespace Go.Proofs.YtjaegdkkiefchaaGreatDoor
open Go Go.Sx
set_option maxRecDepth 100000
set_option maxHeartbeats 1000000

/-- A loop that counts up to n, and carries other values. -/
abbrev IX (n : Nat) (R : Nat → List Value → Heap → Own → Prop) : List Value → Heap → Own → Prop := fun vs H O => ∃ (i : Nat) (xs : List Value), vs = iV i :: xs ∧ i ≤ n ∧ R i xs H O
abbrev MX (n : Nat) : List Value → Heap → Own → Nat := fun vs _ _ => match g vs 0 with | .int _ k => n - k.toNat | _ => 0
theorem countX_den {P : Program} {lab key : Nat} {init : List Value} {body : (List Value → Heap → Own → Prop) → List Value → Tree} {H : Heap} {O : Own} {Q : Value → Heap → Own → Prop} (n : Nat) (R : Nat → List Value → Heap → Own → Prop)
    (h0 : R 0 init H O) (step : ∀ i xs H' O', i ≤ n → xs.length = init.length → Ones xs → Heap.le H H' → R i xs H' O' → (body (Back (IX n R) (MX n) (n - i)) (iV i :: xs)).den P Q H' O') :
    (Tree.loop lab key (iV 0 :: init) body).den P Q H O := by
  refine loop_den (IX n R) (MX n) ⟨0, init, rfl, Nat.zero_le _, h0⟩ ?_
  rintro vs H' O' hl ho hle ⟨i, xs, rfl, hi, hr⟩
  exact step i xs H' O' hi (by simpa using hl) ho.2 hle hr
theorem countX_cont {P : Program} {lab n i : Nat} {R : Nat → List Value → Heap → Own → Prop} {xs : List Value} {eqs : List (List Value × List Value)} {H : Heap} {O : Own} {Q : Value → Heap → Own → Prop} (he : Eqs eqs) (hi : i < n) (hr : R (i + 1) xs H O) :
    (Tree.cont lab (Back (IX n R) (MX n) (n - i)) (iV ((i + 1 : Nat) : Int) :: xs) eqs).den P Q H O := by
  refine cont_den he ⟨i + 1, xs, rfl, hi, hr⟩ ?_
  show n - ((i + 1 : Nat) : Int).toNat < n - i
  simp; omega
/-- What is still owned is given up. -/
theorem ret_drop {P : Program} {v : Value} {H : Heap} {O : Own} {Q : Value → Heap → Own → Prop} (h : Q v H []) : (Tree.ret v []).den P Q H O := fun _ => ⟨H, [], Ghost.drop _ _, h⟩
theorem Sl.block1 {H : Heap} {r size : Nat} {row : List Value} {T : TypeId} (h : H r = some (.cells row.toArray T (0, 0))) (hl : row.length = size) (ho : Ones row) : Sl H size (.slice (some ⟨r, 0, none⟩) 1 1) [row] := by
  refine ⟨_, _, rfl, Nat.le_refl _, by simp, fun _ => ⟨_, rfl, ?_⟩⟩
  intro i x hx
  cases i with
  | succ i => simp at hx
  | zero =>
    simp at hx
    subst hx
    refine ⟨?_, hl, ho⟩
    rw [add_none, Nat.zero_mul, Nat.add_zero, read_block h (by omega)]
    simp [← hl]

def newOb (id c ow : Int) : Ob := ⟨id, c, ow, 0, 0, 0, 0, 0, 0, false, false, false⟩
theorem c_object_New (id c ow : Int) (H : Heap) (O : Own) : RetO PP F_object_New [iV id, iV c, iV ow] H O (.agg (newOb id c ow).row.toArray) := by
  refine run_object_New (vs := [iV id, iV c, iV ow]) (by kernel_rfl) ⟨rfl, rfl, rfl, trivial⟩ ?_
  simp only [T_object_New]
  exact fun r0 => chkN_den (chkN_den (ret_denO ⟨rfl, rfl⟩))
/-- The objects of a deck. -/
def deckOb (k : Nat) (l : List Int) (ow : Int) : List Ob := l.mapIdx fun i c => newOb ((k + i + 1 : Nat) : Int) c ow
theorem deck_len (k : Nat) (l : List Int) (ow : Int) : (deckOb k l ow).length = l.length := by simp [deckOb]
theorem deck_take {k : Nat} {l : List Int} {ow : Int} {i : Nat} (h : i < l.length) : (deckOb k l ow).take (i + 1) = (deckOb k l ow).take i ++ [newOb ((k + i + 1 : Nat) : Int) l[i] ow] := by
  rw [List.take_add_one]
  congr 1
  simp [deckOb, h]
def zSt (life : Int) (lib : List Int) : St := ⟨life, 0, 0, 0, 0, lib, [], [], [], false, false, false, 0, 0⟩
def zBd : Bd := ⟨[], zSt 0 [], zSt 0 [], [], [], [], [], 0, 0, 0, 0, 0⟩
def newBd (life : Int) (a c : List Int) : Bd := ⟨deckOb 0 a 0 ++ deckOb a.length c 1, zSt life ((deckOb 0 a 0).map (·.id)), zSt life ((deckOb a.length c 1).map (·.id)), [], [], [], [], 0, 0, 0, -1, 0⟩
def newOk (life : Int) (a c : List Int) : Bool := (decide (1 ≤ life ∧ life ≤ 9999) && decide (a.length + c.length ≤ 500)) && ((a ++ c).all fun x => decide (0 ≤ x ∧ x ≤ 399))
def newR (life : Int) (a c : List Int) : Bd × Int := if newOk life a c then (newBd life a c, 0) else (zBd, 2)
abbrev nilS : Value := .slice none 0 0
def nilV : BV12 := ⟨nilS, nilS, nilS, nilS, nilS, nilS, nilS, nilS, nilS, nilS, nilS, nilS, nilS⟩
theorem rsl_nil (H : Heap) (O : Own) (size : Nat) : RSl H O size nilS [] := (Sl.nil H size).rsl O
theorem its_nil (H : Heap) (O : Own) : ItsR H O nilS [] := ⟨[], rsl_nil H O 5, rfl, fun i r x h => by simp at h⟩
theorem zBd_R (H : Heap) : BdR H [] nilV zBd :=
  ⟨rsl_nil _ _ _, ⟨rsl_nil _ _ _, rsl_nil _ _ _, rsl_nil _ _ _, rsl_nil _ _ _⟩, ⟨rsl_nil _ _ _, rsl_nil _ _ _, rsl_nil _ _ _, rsl_nil _ _ _⟩, its_nil _ _, its_nil _ _, rsl_nil _ _ _, rsl_nil _ _ _⟩
/-- What New hands back. -/
def NewQ (life : Int) (a c : List Int) (v : Value) (H' : Heap) (O' : Own) : Prop :=
  O' = [] ∧ ∃ w, v = .tuple #[.agg (boardC w (newR life a c).1).toArray, iV (newR life a c).2] ∧ BdR H' [] w (newR life a c).1
theorem new_bad {life : Int} {a c : List Int} (h : newOk life a c = false) (H : Heap) : NewQ life a c (.tuple #[.agg (boardC nilV zBd).toArray, iV 2]) H [] := by
  refine ⟨rfl, nilV, ?_, ?_⟩
  · simp only [newR, h]; rfl
  · simp only [newR, h]; exact zBd_R H
theorem new_good {life : Int} {a c : List Int} (h : newOk life a c = true) {H : Heap} {o l0 l1 : Value} {O O1 O2 O3 : Own} (hO : O.Perm (O1 ++ (O2 ++ O3))) (ho : OSl Ty_api_Object 12 o ((deckOb 0 a 0 ++ deckOb a.length c 1).map Ob.row) O1)
    (hl : OSl Ty_int 1 l0 (ints ((deckOb 0 a 0).map (·.id))) O2) (hm : OSl Ty_int 1 l1 (ints ((deckOb a.length c 1).map (·.id))) O3) {P : Program} :
    (Tree.ret (.tuple #[.agg (boardC ⟨o, l0, nilS, nilS, nilS, l1, nilS, nilS, nilS, nilS, nilS, nilS, nilS⟩ (newBd life a c)).toArray, iV 0]) []).den P (NewQ life a c) H O := by
  intro hc0
  have hc : Cons H (O1 ++ (O2 ++ O3)) := let ⟨w, F, hm⟩ := hc0; ⟨w, F, hm.perm (hO.append_right F)⟩
  obtain ⟨H1, g1, s1, le1⟩ := ho.freeze hc
  have hc1 : Cons H1 (O2 ++ O3) := let ⟨w, F, hm⟩ := hc; ⟨w, F, (g1 w F hm).1⟩
  obtain ⟨H2, g2, s2, l2⟩ := hl.freeze hc1
  have hc2 : Cons H2 (O3 ++ []) := by
    obtain ⟨w, F, hm⟩ := hc1
    exact ⟨w, F, by rw [List.append_nil]; exact (g2 w F hm).1⟩
  obtain ⟨H3, g3, s3, l3⟩ := hm.freeze hc2
  rw [List.append_nil] at g3
  refine ⟨H3, [], (Ghost.perm hO).trans (g1.trans (g2.trans g3)), rfl, ⟨o, l0, nilS, nilS, nilS, l1, nilS, nilS, nilS, nilS, nilS, nilS, nilS⟩, ?_, ?_⟩
  · simp only [newR, h]; rfl
  · simp only [newR, h, if_true]
    exact ⟨((s1.le l2).le l3).rsl [], ⟨(s2.le l3).rsl [], rsl_nil _ _ _, rsl_nil _ _ _, rsl_nil _ _ _⟩, ⟨s3.rsl [], rsl_nil _ _ _, rsl_nil _ _ _, rsl_nil _ _ _⟩, its_nil _ _, its_nil _ _, rsl_nil _ _ _, rsl_nil _ _ _⟩

theorem ints_append (l : List Int) (x : Int) : ints l ++ [[iV x]] = ints (l ++ [x]) := by simp [ints]
theorem newOk_bad {life : Int} {a c : List Int} {i : Nat} (h : i < (a ++ c).length) (hx : ¬ (0 ≤ (a ++ c)[i] ∧ (a ++ c)[i] ≤ 399)) : newOk life a c = false := by
  unfold newOk
  have : ((a ++ c).all fun x => decide (0 ≤ x ∧ x ≤ 399)) = false := by
    rw [Bool.eq_false_iff]
    intro hall
    have := List.all_eq_true.1 hall _ (List.getElem_mem h)
    exact hx (by simpa using this)
  rw [this, Bool.and_false]
theorem all_take {l : List Int} {i : Nat} (h : i < l.length) (h1 : ∀ x ∈ l.take i, 0 ≤ x ∧ x ≤ 399) (h2 : 0 ≤ l[i] ∧ l[i] ≤ 399) : ∀ x ∈ l.take (i + 1), 0 ≤ x ∧ x ≤ 399 := by
  intro x hx
  rw [List.take_add_one, List.getElem?_eq_getElem h] at hx
  rcases List.mem_append.1 hx with hx | hx
  · exact h1 x hx
  · simp at hx; subst hx; exact h2
theorem c_New {H : Heap} {va vc : Value} (life : Int) {a c : List Int} (ha : Sl H 1 va (ints a)) (hc : Sl H 1 vc (ints c)) (hla : a.length ≤ 1000) (hlc : c.length ≤ 1000) :
    Triple PP F_board_New [iV life, .agg #[va, vc]] H [] (NewQ life a c) := by
  refine run_board_New (vs := [iV life, va, vc]) (by kernel_rfl) ⟨rfl, ha.one, hc.one, trivial⟩ ?_
  simp only [T_board_New]
  have la := ha.len
  have lc := hc.len
  rw [ints, List.length_map] at la lc
  refine newbox_den fun r0 => newbox_den fun r1 => call_retO (c_within life 1 9999 H []) rfl ⟨rfl, trivial⟩ fun H1 l1 => pure_den _ (not_eq' _) ?_
  replace ha := ha.le l1
  replace hc := hc.le l1
  repeat (first | refine chkN_den ?_ | refine chkV_den ?_ | refine pure_den _ la ?_ | refine pure_den _ lc ?_ | refine pure_den _ (add_nat (by omega)) ?_ | refine pure_den _ (gtr_eq _ _) ?_ | refine pure_den _ (pick_or _ _) ?_)
  refine br_den (fun hb => chkN_den (chkN_den (ret_denO (new_bad ?_ H1)))) (fun hb => ?_)
  · unfold newOk
    simp only [Bool.or_eq_true, Bool.not_eq_true', decide_eq_false_iff_not, decide_eq_true_eq] at hb
    rcases hb with hb | hb
    · simp only [hb, decide_false, Bool.false_and]
    · have : ¬ (a.length + c.length ≤ 500) := by omega
      simp only [this, decide_false, Bool.and_false, Bool.false_and]
  simp only [Bool.or_eq_false_iff, Bool.not_eq_false', decide_eq_true_eq, decide_eq_false_iff_not] at hb
  obtain ⟨hlife, hsum⟩ := hb
  have hsum : a.length + c.length ≤ 500 := by omega
  refine newbox_den fun r2 => chkN_den (chkN_den (chkN_den (pure_den _ la ?_)))
  refine countX_den a.length (fun i xs H' O' => ∃ o l O1 O2, xs = [o, l, nilS] ∧ O'.Perm (O1 ++ O2) ∧ Heap.le H1 H' ∧ OSl Ty_api_Object 12 o (((deckOb 0 a 0).take i).map Ob.row) O1 ∧ OSl Ty_int 1 l (ints (((deckOb 0 a 0).take i).map (·.id))) O2 ∧ ∀ x ∈ a.take i, 0 ≤ x ∧ x ≤ 399)
    ⟨nilS, nilS, [], [], rfl, List.Perm.refl _, Heap.le_refl _, OSl.nil _ _, OSl.nil _ _, by simp⟩ ?_
  rintro i xs H2 O2' hi - - - ⟨o, l, O1, O2, rfl, hO, l2, ho, hl, hall⟩
  refine pure_den _ (lss_eq _ _) (br_den (fun hb => ?_) (fun hb => ?_))
  · have hlt : i < a.length := by simpa using hb
    obtain ⟨p, h1, h2, h3, h4⟩ := (ha.le l2).idx (k := .i64) (i := i) (r := [iV a[i]]) (by simp [ints, hlt])
    refine pure_den _ h1 (load_den h2 h3 h4 (call_retO (c_within a[i] 0 399 H2 O2') rfl ⟨rfl, trivial⟩ fun H3 l3 => pure_den _ (not_eq' _) (br_den (fun hb => chkN_den (chkN_den (ret_drop (new_bad ?_ H3)))) (fun hb => ?_))))
    · refine newOk_bad (i := i) (by simp; omega) ?_
      rw [List.getElem_append_left hlt]
      rintro ⟨q1, q2⟩
      simp at hb
      omega
    · have hin : 0 ≤ a[i] ∧ a[i] ≤ 399 := by simpa using hb
      have lno := ho.len
      rw [List.length_map, List.length_take, deck_len, Nat.min_eq_left (by omega)] at lno
      refine chkN_den (pure_den _ lno (pure_den _ (add_one (by omega)) (chkN_den (call_retO (c_object_New _ _ _ H3 O2') rfl (by simp [newOb, Ob.row, Ones, Value.oneCell']) fun H4 l4 => newbox_den fun r3 => ?_))))
      refine call_append (rows := ((deckOb 0 a 0).take i).map Ob.row) (news := [(newOb ((i + 1 : Nat) : Int) a[i] 0).row]) (O1 := O1) (O2 := O2) (e := Ty_api_Object) (size := 12) (bytes := 80) (by kernel_rfl) hO ho
        (fun Hf _ hf => Sl.block1 (hf _ List.mem_cons_self) rfl (by simp [newOb, Ob.row, Ones, Value.oneCell'])) ?_ ?_ ?_
      · simp [deck_len]; omega
      · simp [deck_len]; omega
      intro o' O1' H5 l5 ho'
      refine chkN_den (chkN_den (newbox_den fun r4 => ?_))
      refine call_append (rows := ints (((deckOb 0 a 0).take i).map (·.id))) (news := [[iV ((i + 1 : Nat) : Int)]]) (O1 := O2) (O2 := O1') (e := Ty_int) (size := 1) (bytes := 8) (by kernel_rfl) List.perm_append_comm hl
        (fun Hf _ hf => Sl.block1 (hf _ List.mem_cons_self) rfl ⟨rfl, trivial⟩) ?_ ?_ ?_
      · simp [ints, deck_len]; omega
      · simp [ints, deck_len]; omega
      intro l' O2'' H6 l6 hl'
      refine chkN_den (pure_den _ (add_one (by omega)) (countX_cont (by simp [Eqs, E]) hlt ⟨o', l', O1', O2'', rfl, List.perm_append_comm, ?_, ?_, ?_, all_take hlt hall hin⟩))
      · exact Heap.le_trans l2 (Heap.le_trans l3 (Heap.le_trans l4 (Heap.le_trans l5 l6)))
      · rw [deck_take hlt, List.map_append, Nat.zero_add]; exact ho'
      · rw [deck_take hlt, List.map_append, Nat.zero_add, ints_append] at *
        exact hl'
  · have hie : i = a.length := by simp at hb; omega
    subst hie
    rw [List.take_of_length_le (by rw [deck_len]; exact Nat.le_refl _)] at ho hl
    rw [List.take_length] at hall
    refine chkN_den (pure_den _ lc ?_)
    refine countX_den c.length (fun i xs H' O' => ∃ o m O1 O3, xs = [o, l, m] ∧ O'.Perm (O1 ++ (O2 ++ O3)) ∧ Heap.le H2 H' ∧ OSl Ty_api_Object 12 o ((deckOb 0 a 0 ++ (deckOb a.length c 1).take i).map Ob.row) O1 ∧ OSl Ty_int 1 m (ints (((deckOb a.length c 1).take i).map (·.id))) O3 ∧ ∀ x ∈ c.take i, 0 ≤ x ∧ x ≤ 399)
      ⟨o, nilS, O1, [], rfl, by simpa using hO, Heap.le_refl _, by simpa using ho, OSl.nil _ _, by simp⟩ ?_
    rintro i xs H3 O3' hi - - - ⟨o, m, O1, O3, rfl, hO, l3, ho, hm, hallc⟩
    refine pure_den _ (lss_eq _ _) (br_den (fun hb => ?_) (fun hb => ?_))
    · have hlt : i < c.length := by simpa using hb
      obtain ⟨p, h1, h2, h3, h4⟩ := ((hc.le l2).le l3).idx (k := .i64) (i := i) (r := [iV c[i]]) (by simp [ints, hlt])
      refine pure_den _ h1 (load_den h2 h3 h4 (call_retO (c_within c[i] 0 399 H3 O3') rfl ⟨rfl, trivial⟩ fun H4 l4 => pure_den _ (not_eq' _) (br_den (fun hb => chkN_den (chkN_den (ret_drop (new_bad ?_ H4)))) (fun hb => ?_))))
      · refine newOk_bad (i := a.length + i) (by simp; omega) ?_
        rw [List.getElem_append_right (by omega)]
        rintro ⟨q1, q2⟩
        simp at hb q1 q2
        omega
      · have hin : 0 ≤ c[i] ∧ c[i] ≤ 399 := by simpa using hb
        have lno := ho.len
        rw [List.length_map, List.length_append, List.length_take, deck_len, deck_len, Nat.min_eq_left (by omega)] at lno
        refine chkN_den (pure_den _ lno (pure_den _ (add_one (by omega)) (chkN_den (call_retO (c_object_New _ _ _ H4 O3') rfl (by simp [newOb, Ob.row, Ones, Value.oneCell']) fun H5 l5 => newbox_den fun r5 => ?_))))
        refine call_append (rows := (deckOb 0 a 0 ++ (deckOb a.length c 1).take i).map Ob.row) (news := [(newOb ((a.length + i + 1 : Nat) : Int) c[i] 1).row]) (O1 := O1) (O2 := O2 ++ O3) (e := Ty_api_Object) (size := 12) (bytes := 80) (by kernel_rfl) hO ho
          (fun Hf _ hf => Sl.block1 (hf _ List.mem_cons_self) rfl (by simp [newOb, Ob.row, Ones, Value.oneCell'])) ?_ ?_ ?_
        · simp [deck_len]; omega
        · simp [deck_len]; omega
        intro o' O1' H6 l6 ho'
        refine chkN_den (chkN_den (newbox_den fun r6 => ?_))
        refine call_append (rows := ints (((deckOb a.length c 1).take i).map (·.id))) (news := [[iV ((a.length + i + 1 : Nat) : Int)]]) (O1 := O3) (O2 := O1' ++ O2) (e := Ty_int) (size := 1) (bytes := 8) (by kernel_rfl)
          (by rw [← List.append_assoc]; exact List.perm_append_comm) hm (fun Hf _ hf => Sl.block1 (hf _ List.mem_cons_self) rfl ⟨rfl, trivial⟩) ?_ ?_ ?_
        · simp [ints, deck_len]; omega
        · simp [ints, deck_len]; omega
        intro m' O3'' H7 l7 hm'
        refine chkN_den (pure_den _ (add_one (by omega)) (countX_cont (by simp [Eqs, E]) hlt ⟨o', m', O1', O3'', rfl, ?_, ?_, ?_, ?_, all_take hlt hallc hin⟩))
        · rw [← List.append_assoc O1']; exact List.perm_append_comm
        · exact Heap.le_trans l3 (Heap.le_trans l4 (Heap.le_trans l5 (Heap.le_trans l6 l7)))
        · rw [deck_take hlt, ← List.append_assoc, List.map_append]; exact ho'
        · rw [deck_take hlt, List.map_append]
          rw [ints_append] at hm'
          exact hm'
    · have hie : i = c.length := by simp at hb; omega
      subst hie
      rw [List.take_of_length_le (by rw [deck_len]; exact Nat.le_refl _)] at ho hm
      rw [List.take_length] at hallc
      refine chkN_den (chkN_den (chkN_den (new_good ?_ hO ho hl hm)))
      unfold newOk
      simp only [Bool.and_eq_true, decide_eq_true_eq, List.all_eq_true]
      refine ⟨⟨hlife, hsum⟩, fun x hx => ?_⟩
      rcases List.mem_append.1 hx with hx | hx
      · exact hall x hx
      · exact hallc x hx
theorem pure_denG {P : Program} {gd : Gd} {op : POp} {args : List Value} {k : Value → Tree} {H : Heap} {O : Own} {Q : Value → Heap → Own → Prop} {v : Value} (h : evalPure op args = some v) (h1 : v.oneCell' = true) (hk : (k v).den P Q H O) :
    (Tree.pure gd op args k).den P Q H O := ⟨v, fun _ => h, .inr h1, hk⟩
theorem load_denG {P : Program} {gd : Gd} {p : Value} {m : Nat} {vs : List Value} {k : List Value → Tree} {H : Heap} {O : Own} {Q : Value → Heap → Own → Prop} (h : H.read p m = some vs) (hl : vs.length = m) (ho : Ones vs)
    (hk : (k vs).den P Q H O) : (Tree.load gd p m k).den P Q H O := ⟨vs, hl, ho, fun _ => .inl h, hk⟩
end Go.Proofs.YtjaegdkkiefchaaGreatDoor
