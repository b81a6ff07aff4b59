/- Where an object is in a board's list: the program's search. -/
import Derived.Test.YtjaegdkkiefchaaGreatDoorP1
namespace Go.Proofs.YtjaegdkkiefchaaGreatDoor
open Go Go.Sx
set_option maxRecDepth 100000
set_option maxHeartbeats 1000000

/-- A call that leaves what is owned as it is, and hands back a value of which S holds. -/
theorem call_givesO {P : Program} {f : FuncId} {args : List Value} {H : Heap} {O : Own} {S : Value → Heap → Prop} {d : Bool} {shp : Shp} {K : List Value → List (List Value) → Heap → Own → Prop}
    (h : Triple P f args H O fun v H' O' => S v H' ∧ O' = O) (hk : ∀ v H', S v H' → Heap.le H H' → ∃ vs, shp.open v = some vs ∧ Ones vs ∧ K vs [] H' O) :
    CallD (fun H1 O1 R => Triple P f args H1 O1 R) d [] [] shp K H O := by
  intro _
  refine ⟨H, O, [], fun v H' O' => S v H' ∧ O' = O, ?_, h, ?_⟩
  · cases d
    · show Ghost H O H (O ++ [])
      rw [List.append_nil]; exact Ghost.refl _ _
    · exact ⟨rfl, .inr ⟨rfl, rfl, rfl, fun v H' O' h => h.2⟩⟩
  · rintro v H' O' ⟨hs, rfl⟩ hle
    obtain ⟨vs, h1, h2, h3⟩ := hk v H' hs hle
    exact ⟨vs, [], O', h1, h2, trivial, rfl, by rw [List.append_nil]; exact h3⟩
abbrev i64 (n : Int) : Prop := -9223372036854775808 ≤ n ∧ n ≤ 9223372036854775807
theorem ob_ones (o : Ob) : Ones o.row := ⟨rfl, rfl, rfl, rfl, rfl, rfl, rfl, rfl, rfl, rfl, rfl, rfl, trivial⟩
theorem c_index_1 (o : Ob) (id : Int) (H : Heap) (O : Own) : RetO PP F_board_index_1 [.agg o.row.toArray, iV id] H O (iV (IntKind.i64.wrap (o.id - id))) := by
  refine run_board_index_1 (vs := o.row ++ [iV id]) (by kernel_rfl) (ones_app (ob_ones o) ⟨rfl, trivial⟩) ?_
  simp only [T_board_index_1]
  exact newbox_den fun r0 => chkN_den (pure_den _ rfl (ret_denO ⟨rfl, rfl⟩))
theorem wrap_zero {a id : Int} (h : i64 id) (ha : 1 ≤ a) (hb : a ≤ 500) : (IntKind.i64.wrap (a - id) == 0) = (a == id) := by
  rw [Bool.eq_iff_iff]
  simp only [beq_iff_eq, IntKind.wrap, IntKind.bits, IntKind.signed]
  simp
  omega
theorem wrap_small {a id : Int} (ha : 1 ≤ a) (hb : a ≤ 500) (h1 : 1 ≤ id) (h2 : id ≤ 500) : IntKind.i64.wrap (a - id) = a - id := wrap_id (by omega) (by omega)
theorem ord_lt : ∀ {l : List Ob} {prev : Option Int}, ordP prev l = true → ∀ {j k : Nat} {x y : Ob}, j < k → l[j]? = some x → l[k]? = some y → x.id < y.id
  | [], _, _, j, k, x, y, _, h, _ => by simp at h
  | a :: l, prev, h, j, k, x, y, hjk, hx, hy => by
    simp only [ordP, Bool.and_eq_true] at h
    cases k with
    | zero => omega
    | succ k =>
      cases j with
      | zero =>
        simp at hx; subst hx
        have hm : y ∈ l := List.mem_of_getElem? (by simpa using hy)
        exact (ordP_spec h.2).1 y hm _ rfl
      | succ j => exact ord_lt h.2 (j := j) (k := k) (by omega) (by simpa using hx) (by simpa using hy)
theorem add_nat' {i n : Nat} (h : i + n < 2 ^ 63) : evalPure (.bin .add .int) [iV (i : Int), iV (n : Int)] = some (iV ((i + n : Nat) : Int)) := add_nat h
theorem conv_u {n : Nat} (h : n < 2 ^ 63) : evalPure (.conv .u64) [iV (n : Int)] = some (.int .u64 (n : Int)) := by
  simp only [evalPure, IntKind.wrap, IntKind.bits, IntKind.signed]
  simp
  omega
theorem conv_i {n : Nat} (h : n < 2 ^ 63) : evalPure (.conv .i64) [.int .u64 (n : Int)] = some (iV (n : Int)) := by
  simp only [evalPure]
  rw [wrap_id (by omega) (by omega)]
theorem shr_one {n : Nat} (h : n < 2 ^ 63) : evalPure (.bin .shr .int) [.int .u64 (n : Int), .int .u64 1] = some (.int .u64 ((n / 2 : Nat) : Int)) := by
  simp only [evalPure, evalBin, evalShift]
  simp [IntKind.bits]
  rw [Int.fdiv_eq_ediv_of_nonneg]
  all_goals omega
/-- The search: it finds what is there, where the list is in order. -/
theorem c_BinarySearch {H : Heap} {O : Own} {v : Value} {l : List Ob} (h : RSl H O 12 v (l.map Ob.row)) {id : Int} (hid : i64 id) (hv : ∀ o ∈ l, 1 ≤ o.id ∧ o.id ≤ 500) (ho : ordP none l = true) (hlen : l.length ≤ 1000000) :
    Triple PP F_slices_BinarySearchFunc_api_Object_api_Object_int [v, iV id, .func (.func F_board_index_1) #[] #[]] H O fun r _ O' => (∃ (i : Nat) (f : Bool), r = .tuple #[iV i, .bool f] ∧ (f = true → ∃ o, l[i]? = some o ∧ o.id = id) ∧ (f = false → ∀ o ∈ l, o.id ≠ id)) ∧ O' = O := by
  refine run_slices_BinarySearchFunc_api_Object_api_Object_int (vs := [v, iV id, .func (.func F_board_index_1) #[] #[]]) (by kernel_rfl) ⟨h.one, rfl, rfl, trivial⟩ ?_
  simp only [T_slices_BinarySearchFunc_api_Object_api_Object_int]
  have hl := h.len
  have hB := h.lenB
  rw [List.length_map] at hl hB
  refine pure_den _ hl ?_
  refine loop_den (fun vs H' O' => ∃ i j : Nat, vs = [iV i, iV j] ∧ i ≤ j ∧ j ≤ l.length ∧ O' = O ∧ Heap.le H H' ∧ (1 ≤ id → id ≤ 500 → (∀ (k : Nat) (o : Ob), k < i → l[k]? = some o → o.id < id) ∧ ∀ (k : Nat) (o : Ob), j ≤ k → l[k]? = some o → id ≤ o.id))
    (fun vs _ _ => match g vs 0, g vs 1 with | .int _ a, .int _ b => (b - a).toNat | _, _ => 0) ⟨0, l.length, rfl, Nat.zero_le _, Nat.le_refl _, rfl, Heap.le_refl _, fun _ _ => ⟨fun k o hk => absurd hk (Nat.not_lt_zero k), fun k o hk e => by
      have := (List.getElem?_eq_some_iff.1 e).1; omega⟩⟩ ?_
  rintro vs H' O' - - - ⟨i, j, rfl, hij, hj, rfl, hle, hinv⟩
  refine pure_den _ (lss_eq _ _) (br_den (fun hb => ?_) (fun hb => ?_))
  · have hlt : i < j := by simpa using hb
    have hm : (i + j) / 2 < l.length := by omega
    obtain ⟨a, h1, h2, _, h3, h4⟩ := (h.le hle).idx .i64 ((i + j) / 2) (Ob.row l[(i + j) / 2]) (by simp [hm])
    refine pure_den _ (add_nat' (by omega)) (pure_den _ (conv_u (by omega)) (pure_den _ (shr_one (by omega)) (pure_den _ (conv_i (by omega)) (pure_den _ h1 (load_denR h2 h3 h4 ?_)))))
    refine callv_den rfl (okFn_of okL_ok (by decide)) (c_index_1 l[(i + j) / 2] id H' O') rfl ⟨rfl, trivial⟩ fun H2 l2 => pure_den _ (lss_eq _ _) (br_den (fun hc => ?_) (fun hc => ?_))
    · refine pure_den _ (add_one (by omega)) (cont_den (by simp [Eqs]) ⟨(i + j) / 2 + 1, j, rfl, by omega, hj, rfl, Heap.le_trans hle l2, fun a1 a2 => ⟨fun k o hk e => ?_, (hinv a1 a2).2⟩⟩ ?_)
      · have hc := of_decide_eq_true hc
        have hm1 := hv _ (List.getElem_mem hm)
        rw [wrap_small hm1.1 hm1.2 a1 a2] at hc
        rcases Nat.lt_or_ge k ((i + j) / 2) with hk2 | hk2
        · have := ord_lt ho hk2 e (List.getElem?_eq_getElem hm); omega
        · have : k = (i + j) / 2 := by omega
          subst this
          rw [List.getElem?_eq_getElem hm] at e
          obtain rfl := Option.some.inj e
          omega
      · show (((j : Int) - (((i + j) / 2 + 1 : Nat) : Int)).toNat) < ((j : Int) - (i : Int)).toNat
        omega
    · refine cont_den (by simp [Eqs]) ⟨i, (i + j) / 2, rfl, by omega, by omega, rfl, Heap.le_trans hle l2, fun a1 a2 => ⟨(hinv a1 a2).1, fun k o hk e => ?_⟩⟩ ?_
      · have hc := of_decide_eq_false hc
        have hm1 := hv _ (List.getElem_mem hm)
        rw [wrap_small hm1.1 hm1.2 a1 a2] at hc
        rcases Nat.lt_or_ge ((i + j) / 2) k with hk2 | hk2
        · have := ord_lt ho hk2 (List.getElem?_eq_getElem hm) e; omega
        · have : k = (i + j) / 2 := by omega
          subst this
          rw [List.getElem?_eq_getElem hm] at e
          obtain rfl := Option.some.inj e
          omega
      · show (((((i + j) / 2 : Nat) : Int) - (i : Int)).toNat) < ((j : Int) - (i : Int)).toNat
        omega
  · have hie : i = j := by
      have : ¬ ((i : Int) < (j : Int)) := of_decide_eq_false hb
      omega
    subst hie
    refine pure_den _ (lss_eq _ _) (br_den (fun hb => ?_) (fun hb => ?_))
    · have hlt : i < l.length := by simpa using hb
      obtain ⟨a, h1, h2, _, h3, h4⟩ := (h.le hle).idx .i64 i (Ob.row l[i]) (by simp [hlt])
      have hm1 := hv _ (List.getElem_mem hlt)
      refine pure_den _ h1 (load_denR h2 h3 h4 (callv_den rfl (okFn_of okL_ok (by decide)) (c_index_1 l[i] id H' O') rfl ⟨rfl, trivial⟩ fun H2 l2 => pure_den _ (eql_eq _ _) (ret_denO ⟨⟨i, (IntKind.i64.wrap (l[i].id - id) == 0), rfl, fun hc => ?_, fun hc => ?_⟩, rfl⟩)))
      · rw [wrap_zero hid hm1.1 hm1.2] at hc
        exact ⟨l[i], List.getElem?_eq_getElem hlt, by simpa using hc⟩
      · rw [wrap_zero hid hm1.1 hm1.2] at hc
        have hne : l[i].id ≠ id := by simpa using hc
        intro o hmem e
        have hob := hv o hmem
        obtain ⟨i1, i2⟩ := hinv (by omega) (by omega)
        obtain ⟨k, hk⟩ := List.mem_iff_getElem?.1 hmem
        rcases Nat.lt_trichotomy k i with hki | hki | hki
        · have := i1 k o hki hk; omega
        · subst hki
          rw [List.getElem?_eq_getElem hlt] at hk
          obtain rfl := Option.some.inj hk
          exact hne e
        · have := ord_lt ho hki (List.getElem?_eq_getElem hlt) hk
          have := i2 i l[i] (Nat.le_refl _) (List.getElem?_eq_getElem hlt)
          omega
    · have hge : l.length ≤ i := by simpa using hb
      refine ret_denO ⟨⟨i, false, rfl, fun hc => (by cases hc), fun _ o hmem e => ?_⟩, rfl⟩
      have hob := hv o hmem
      obtain ⟨i1, _⟩ := hinv (by omega) (by omega)
      obtain ⟨k, hk⟩ := List.mem_iff_getElem?.1 hmem
      have := i1 k o (by have := (List.getElem?_eq_some_iff.1 hk).1; omega) hk
      omega
theorem valid_ids {b : Bd} (h : validBd b = true) : (∀ o ∈ b.objs, 1 ≤ o.id ∧ o.id ≤ 500) ∧ ordP none b.objs = true := by
  obtain ⟨p1, p2, _⟩ := placed_objs (valid_parts h).1
  refine ⟨fun o ho => ?_, p1⟩
  have := List.all_eq_true.1 p2 o ho
  simp only [ok1, Bool.and_eq_true] at this
  exact validO_id this.1
theorem valid_len {b : Bd} (h : validBd b = true) : b.objs.length ≤ 1000000 := by
  simp only [validBd, midBad, Bool.and_eq_true, Bool.not_eq_true', Bool.or_eq_false_iff, decide_eq_false_iff_not] at h
  have := h.2.2.2.2.1.1.1.2
  omega
theorem idxO_none {b : Bd} {id : Int} (h : ∀ o ∈ b.objs, o.id ≠ id) : idxO b id = -1 := by
  rcases idxP_spec (fun o : Ob => o.id == id) b.objs 0 (by omega) with ⟨e, _⟩ | ⟨k, o, e1, e2, _⟩
  · exact e
  · exact absurd (by simpa using e2) (h o (List.mem_of_getElem? e1))
theorem idxO_some {b : Bd} {id : Int} (h : ¬ idxO b id < 0) : ∃ (k : Nat) (o : Ob), b.objs[k]? = some o ∧ o.id = id ∧ idxO b id = k := by
  rcases idxP_spec (fun o : Ob => o.id == id) b.objs 0 (by omega) with ⟨e, _⟩ | ⟨k, o, e1, e2, e3⟩
  · exact absurd (show idxO b id < 0 by rw [idxO, e]; omega) h
  · exact ⟨k, o, e1, by simpa using e2, by rw [idxO, e3]; omega⟩
/-- The index and the error. -/
def indexE (b : Bd) (id : Int) : Int := if validBd b = true then (if idxO b id < 0 then 9 else 0) else 2
def indexI (b : Bd) (id : Int) : Int := if validBd b = true then (if idxO b id < 0 then 0 else idxO b id) else 0
theorem c_index {H : Heap} {O : Own} {v : BV12} {b : Bd} (h : BdR H O v b) {id : Int} (hid : i64 id) : RetO PP F_board_index [.agg (boardC v b).toArray, iV id] H O (.tuple #[iV (indexI b id), iV (indexE b id)]) := by
  refine run_board_index (vs := boardC v b ++ [iV id]) (by kernel_rfl) (ones_app (boardC_ones h) ⟨rfl, trivial⟩) ?_
  simp only [T_board_index]
  refine newbox_den fun r0 => chkN_den (call_retO (c_board_Valid h) rfl ⟨rfl, trivial⟩ fun H1 l1 => pure_den _ (not_eq' _) (br_den (fun hb => ret_denO ⟨?_, rfl⟩) (fun hb => chkN_den ?_)))
  · have hf : validBd b = false := notT hb
    simp [indexI, indexE, hf]
  have ht : validBd b = true := notF hb
  obtain ⟨hv, ho⟩ := valid_ids ht
  refine call_givesO (c_BinarySearch (h.le l1).objs hid hv ho (valid_len ht)) ?_
  rintro _ H2 ⟨i, f, rfl, f1, f2⟩ l2
  refine ⟨[iV i, .bool f], rfl, ⟨rfl, rfl, trivial⟩, pure_den _ (not_eq' _) (br_den (fun hb => ret_denO ⟨?_, rfl⟩) (fun hb => ret_denO ⟨?_, rfl⟩))⟩
  · have hf : f = false := notT hb
    have := idxO_none (f2 hf)
    simp [indexI, indexE, ht, this]
  · have hf : f = true := notF hb
    obtain ⟨o, e1, rfl⟩ := f1 hf
    have := idxO_at (ordP_spec ho).2 e1
    have hn : ¬ ((i : Int) < 0) := by omega
    simp only [indexI, indexE, ht, this, hn, if_true, if_false]
    rfl
end Go.Proofs.YtjaegdkkiefchaaGreatDoor
