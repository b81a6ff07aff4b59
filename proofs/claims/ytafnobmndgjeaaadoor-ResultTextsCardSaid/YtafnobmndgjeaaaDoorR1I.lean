/- The law on judges. -/
import Derived.Test.YtafnobmndgjeaaaDoorR1H
import Derived.Test.YtafnobmndgjeaaaDoorSx29
namespace Go.Proofs.YtafnobmndgjeaaaDoor
open Go Go.Sx
set_option maxRecDepth 100000

theorem judge_out (x y : Int) (n k : Nat) : judgeO false false x y n k = if x > y ∨ x = y ∧ (n : Int) > k then 1 else if x < y ∨ (n : Int) < k then 2 else 3 := by
  simp only [judgeO, Bool.false_eq_true, if_false, orL, cmpI]
  rcases Int.lt_trichotomy x y with h | h | h
  · have h1 : ¬ x > y := by omega
    have h2 : ¬ x = y := by omega
    simp [h, h1, h2]
  · subst h
    rcases Int.lt_trichotomy n k with h | h | h
    · have h1 : ¬ (n : Int) > k := by omega
      simp [h, h1]
    · simp [h]
    · have h1 : ¬ (n : Int) < k := by omega
      simp [h1]
      omega
  · have h1 : ¬ x < y := by omega
    simp [h, h1]
theorem s9 {c : List Value} {x y : Int} {n k : Nat} (hc : JB c x y n k) (p q : Bool) (r : Int) (H : Heap) :
    Ret Tryd.prog 9 [.agg c.toArray, .agg #[.bool p, .bool q], I r] H (judgeR p q r x y n k) := by
  refine run9 (vs := c ++ [.bool p, .bool q, I r]) (args41 hc.len (by kernel_rfl) (by kernel_rfl)) (Ones.append.2 ⟨hc.ones, rfl, rfl, rfl, trivial⟩) ?_
  simp only [t9]
  have e1 : g (c ++ [.bool p, .bool q, I r]) 1 = I x := (g_lt hc.len rfl).trans hc.x
  have e15 : g (c ++ [.bool p, .bool q, I r]) 15 = I y := (g_lt hc.len rfl).trans hc.y
  have e6 : g (c ++ [.bool p, .bool q, I r]) 6 = g c 6 := g_lt hc.len rfl
  have e20 : g (c ++ [.bool p, .bool q, I r]) 20 = g c 20 := g_lt hc.len rfl
  have e38 : g (c ++ [.bool p, .bool q, I r]) 38 = .bool p := g_ge hc.len 0 rfl
  have e39 : g (c ++ [.bool p, .bool q, I r]) 39 = .bool q := g_ge hc.len 1 rfl
  have e40 : g (c ++ [.bool p, .bool q, I r]) 40 = I r := g_ge hc.len 2 rfl
  rw [e1, e15, e6, e20, e38, e39, e40]
  refine fun r0 r1 r2 => pure_den _ (lss_eq _ _) (chkV_den (pure_den _ (gtr_eq _ _) (chkV_den (pure_den _ (pick_or _ _) ?_))))
  refine br_den (fun hb => chkN_den (chkN_den (ret_den ⟨?_, rfl⟩))) (fun hb => ?_)
  · have : r < 1 ∨ r > 5 := by simpa using hb
    simp only [judgeR, if_pos this]
  · have hr : ¬ (r < 1 ∨ r > 5) := by simp at hb; omega
    refine chkN_den (chkN_den fun r3 r4 => chkN_den (chkN_den (chkN_den (pure_den _ hc.n (chkN_den (pure_den _ hc.k ?_))))))
    refine chkN_den (chkN_den (chkV_den (chkV_den (pure_den _ (pick_and _ _) (br_den (fun hb => chkN_den (chkN_den (ret_den ⟨?_, rfl⟩))) (fun hb => chkN_den (br_den (fun hp => chkN_den (chkN_den (ret_den ⟨?_, rfl⟩))) (fun hp => chkN_den (br_den (fun hq => chkN_den (chkN_den (ret_den ⟨?_, rfl⟩))) (fun hq => ?_))))))))))
    · obtain ⟨rfl, rfl⟩ : p = true ∧ q = true := by simpa using hb
      simp [judgeR, if_neg hr, judgeO]
    · subst hp
      have : q = false := by simpa using hb
      subst this
      simp [judgeR, if_neg hr, judgeO]
    · subst hp; subst hq
      simp [judgeR, if_neg hr, judgeO]
    · subst hp; subst hq
      have hj := judge_out x y n k
      repeat (first | refine chkN_den ?_ | refine chkV_den ?_ | refine pure_den _ (gtr_eq _ _) ?_ | refine pure_den _ (lss_eq _ _) ?_ | refine pure_den _ (eql_eq _ _) ?_ | refine pure_den _ (pick_and _ _) ?_ | refine pure_den _ (pick_or _ _) ?_)
      refine br_den (fun hb => chkN_den (chkN_den (ret_den ⟨?_, rfl⟩))) (fun hb => ?_)
      · rw [if_pos (by simpa using hb)] at hj
        simp [judgeR, if_neg hr, hj]
      · rw [if_neg (by simpa using hb)] at hj
        repeat (first | refine chkN_den ?_ | refine chkV_den ?_ | refine pure_den _ (gtr_eq _ _) ?_ | refine pure_den _ (lss_eq _ _) ?_ | refine pure_den _ (eql_eq _ _) ?_ | refine pure_den _ (pick_and _ _) ?_ | refine pure_den _ (pick_or _ _) ?_)
        refine br_den (fun hb => chkN_den (chkN_den (ret_den ⟨?_, rfl⟩))) (fun hb => chkN_den (chkN_den (ret_den ⟨?_, rfl⟩)))
        · rw [if_pos (by simpa using hb)] at hj
          simp [judgeR, if_neg hr, hj]
        · rw [if_neg (by simpa using hb)] at hj
          simp [judgeR, if_neg hr, hj]
theorem s18 {c : List Value} (hc : c.length = 14) (ho : Ones c) (H : Heap) : Ret Tryd.prog 18 [.agg c.toArray] H (.agg #[g c 5, g c 6, g c 7, g c 8]) := by
  refine run18 (vs := c ++ []) (entry_of (Ts := [27]) (by kernel_rfl) (by kernel_rfl) (flatOf_agg (n := 14) (by kernel_rfl) (by kernel_rfl) hc rfl)) (by simpa using ho) ?_
  simp only [t18]
  repeat (first | refine chkN_den ?_ | refine newbox_den fun _ => ?_)
  refine ret_den ⟨?_, rfl⟩
  simp
/-- What small reads of a board. -/
structure BoardOk (H : Heap) (c : List Value) : Prop where
  len : c.length = 38
  ones : Ones c
  sl : ∀ i ∈ [0, 6, 7, 8, 9, 20, 21, 22, 23, 29, 30, 31, 32], ∃ n : Nat, evalPure .len [g c i] = some (I n)
  it : ∀ i ∈ [29, 30], ∃ rows, Sl H 5 (g c i) rows ∧ ∀ r ∈ rows, ∃ n : Nat, evalPure .len [g r 4] = some (I n)
theorem s6 {H : Heap} {c : List Value} (hc : BoardOk H c) : Gives Tryd.prog 6 [.agg c.toArray] H fun v _ => ∃ b, v = .bool b := by
  refine run6 (vs := c ++ []) (entry_of (Ts := [33]) (by kernel_rfl) (by kernel_rfl) (flatOf_agg (n := 38) (by kernel_rfl) (by kernel_rfl) hc.len rfl)) (by simpa using hc.ones) ?_
  rw [List.append_nil]
  simp only [t6]
  have hr : ∀ (i : Nat), i + 14 ≤ 38 → Ret Tryd.prog 18 [.agg ((List.range' i 14).map (g c)).toArray] H (.agg #[g ((List.range' i 14).map (g c)) 5, g ((List.range' i 14).map (g c)) 6, g ((List.range' i 14).map (g c)) 7, g ((List.range' i 14).map (g c)) 8]) :=
    fun i hi => s18 (by simp) (ones_range hc.ones 14 i (by rw [hc.len]; exact hi)) H
  have hl := fun i hi => (hc.sl i hi)
  have ho : ∀ i, i < 38 → (g c i).oneCell' = true := fun i hi => hc.ones.get i (by rw [hc.len]; exact hi)
  have brf : ∀ {b : Bool} {k : Tree} {H' : Heap}, k.den Tryd.prog (fun v _ O' => (∃ b, v = .bool b) ∧ O' = []) H' [] → (Tree.br (.bool b) (.ret (.bool false) []) k).den Tryd.prog (fun v _ O' => (∃ b, v = .bool b) ∧ O' = []) H' [] :=
    fun h => br_den (fun _ => ret_den ⟨⟨false, rfl⟩, rfl⟩) (fun _ => h)
  obtain ⟨n6, h6⟩ := hl 6 (by simp)
  obtain ⟨n7, h7⟩ := hl 7 (by simp)
  obtain ⟨n8, h8⟩ := hl 8 (by simp)
  obtain ⟨n9, h9⟩ := hl 9 (by simp)
  obtain ⟨n20, h20⟩ := hl 20 (by simp)
  obtain ⟨n21, h21⟩ := hl 21 (by simp)
  obtain ⟨n22, h22⟩ := hl 22 (by simp)
  obtain ⟨n23, h23⟩ := hl 23 (by simp)
  obtain ⟨n0, h0⟩ := hl 0 (by simp)
  obtain ⟨n31, h31⟩ := hl 31 (by simp)
  obtain ⟨n32, h32⟩ := hl 32 (by simp)
  refine fun r0 => chkN_den (call_ret (vs := [g c 6, g c 7, g c 8, g c 9]) (hr 1 (by omega)) rfl ⟨ho 6 (by omega), ho 7 (by omega), ho 8 (by omega), ho 9 (by omega), trivial⟩ fun H1 l1 => ?_)
  refine pure_den _ h6 (pure_den _ (gtr_eq _ _) (brf (pure_den _ h7 (pure_den _ (gtr_eq _ _) (brf (pure_den _ h8 (pure_den _ (gtr_eq _ _) (brf (pure_den _ h9 (pure_den _ (gtr_eq _ _) (brf ?_)))))))))))
  refine chkN_den (call_ret (vs := [g c 20, g c 21, g c 22, g c 23]) (Triple.mono (H := H1) (s18 (c := (List.range' 15 14).map (g c)) (by simp) (ones_range hc.ones 14 15 (by rw [hc.len]; omega)) H1) fun _ _ _ _ h => h) rfl ⟨ho 20 (by omega), ho 21 (by omega), ho 22 (by omega), ho 23 (by omega), trivial⟩ fun H2 l2 => ?_)
  refine pure_den _ h20 (pure_den _ (gtr_eq _ _) (brf (pure_den _ h21 (pure_den _ (gtr_eq _ _) (brf (pure_den _ h22 (pure_den _ (gtr_eq _ _) (brf (pure_den _ h23 (pure_den _ (gtr_eq _ _) (brf ?_)))))))))))
  have hle := Heap.le_trans l1 l2
  clear l1 l2
  obtain ⟨n29, h29⟩ := hl 29 (by simp)
  obtain ⟨n30, h30⟩ := hl 30 (by simp)
  have items : ∀ (i : Nat) (hi : i ∈ [29, 30]) (lab : Nat) (rest : Tree) (eqs : List (List Value × List Value)) (H2 : Heap), Heap.le H H2 → Eqs eqs → (∀ H3, Heap.le H H3 → rest.den Tryd.prog (fun v _ O' => (∃ b, v = .bool b) ∧ O' = []) H3 []) →
      (Tree.loop lab 16 [.int .i64 0] fun C l20 => .pure [] .len [g c i] fun v21 => .pure [] (.bin .lss .int) [g l20 0, v21] fun v22 => .br v22
        (.pure [] (.idx 5) [g c i, g l20 0] fun v23 => .chk (.ptr [] v23) <| .load [] (ptrAdd v23 4) 1 fun l24 => .pure [] .len [g l24 0] fun v25 => .pure [] (.bin .gtr .int) [v25, .int .i64 6] fun v26 => .br v26 (.ret (.bool false) [])
          (.pure [] (.bin .add .int) [g l20 0, .int .i64 1] fun v27 => .cont lab C [v27] eqs)) rest).den Tryd.prog (fun v _ O' => (∃ b, v = .bool b) ∧ O' = []) H2 [] := by
    intro i hi lab rest eqs H2 hle he hrest
    obtain ⟨rows, hs, hrow⟩ := hc.it i hi
    refine count_den rows.length (fun j H' O' => O' = [] ∧ Heap.le H H') ⟨rfl, hle⟩ ?_
    rintro j H3 O3 hj - ⟨rfl, hle3⟩
    refine pure_den _ hs.len (pure_den _ (lss_eq _ _) (br_den (fun hb => ?_) (fun _ => hrest H3 hle3)))
    have hlt : j < rows.length := by simpa using hb
    obtain ⟨a, k1, k2, k3, k4⟩ := (hs.le hle3).idx (k := .i64) (i := j) (r := rows[j]) (by simp [hlt])
    obtain ⟨m, hm⟩ := hrow rows[j] (List.getElem_mem hlt)
    have hp := read_part k2 4 1 (by omega)
    rw [take_one (by omega)] at hp
    refine pure_den _ k1 (chkP_den rfl (load_den hp rfl ⟨k4.get 4 (by omega), trivial⟩ (pure_den _ hm (pure_den _ (gtr_eq _ _) (brf (pure_den _ (add_one (by have := hs.lenB; omega)) (count_cont he hlt ⟨rfl, hle3⟩)))))))
  refine chkN_den (chkN_den fun r1 => chkN_den (pure_den _ h29 (pure_den _ (gtr_eq _ _) (brf (items 29 (by simp) _ _ _ H2 hle (by simp [Eqs]) fun H3 hle3 => ?_)))))
  refine chkN_den (pure_den _ h30 (pure_den _ (gtr_eq _ _) (brf (items 30 (by simp) _ _ _ H3 hle3 (by simp [Eqs]) fun H4 hle4 => ?_))))
  refine chkN_den (pure_den _ h0 (pure_den _ (leq_eq _ _) (chkN_den (chkV_den (chkV_den (pure_den _ h31 (chkV_den (pure_den _ (leq_eq _ _) (chkV_den (pure_den _ (pick_and _ _) ?_))))))))))
  exact chkN_den (chkV_den (chkV_den (pure_den _ h32 (chkV_den (pure_den _ (leq_eq _ _) (chkV_den (pure_den _ (pick_and _ _) (ret_den ⟨⟨_, rfl⟩, rfl⟩))))))))
/-- ResultJudges is true. -/
theorem s3 {H : Heap} (hg : Glob H) {c : List Value} {x y : Int} {n k : Nat} (hb : BoardOk H c) (hc : JB c x y n k) (p q : Bool) (r : Int) : Ret Tryd.prog 3 [.agg c.toArray, .agg #[.bool p, .bool q], I r] H (.bool true) := by
  refine run3 (vs := c ++ [.bool p, .bool q, I r]) (args41 hc.len (by kernel_rfl) (by kernel_rfl)) (Ones.append.2 ⟨hc.ones, rfl, rfl, rfl, trivial⟩) ?_
  simp only [t3]
  have e38 : g (c ++ [.bool p, .bool q, I r]) 38 = .bool p := g_ge hc.len 0 rfl
  have e39 : g (c ++ [.bool p, .bool q, I r]) 39 = .bool q := g_ge hc.len 1 rfl
  have e40 : g (c ++ [.bool p, .bool q, I r]) 40 = I r := g_ge hc.len 2 rfl
  rw [e38, e39, e40]
  have h6 := s6 hb
  have h8 := fun H => s8 hc p q r H
  have h9 := fun H => s9 hc p q r H
  rw [judgeR_eq] at h8 h9
  rw [← range_take (c := c) (d := [.bool p, .bool q, I r]) hc.len] at h6 h8 h9
  refine fun r0 r1 => chkN_den (call_gives h6 ?_)
  rintro v H1 ⟨b, rfl⟩ l1
  refine ⟨_, rfl, ⟨rfl, trivial⟩, pure_den _ (not_eq' b) (br_den (fun _ => call_ret (s7 (hg.le l1)) rfl ⟨rfl, trivial⟩ fun H2 _ => ret_den ⟨rfl, rfl⟩) (fun _ => ?_))⟩
  refine chkN_den (chkN_den (chkN_den (chkN_den (call_ret (h8 H1) rfl ⟨rfl, rfl, trivial⟩ fun H2 l2 => call_ret (h9 H2) rfl ⟨rfl, rfl, trivial⟩ fun H3 l3 => ?_))))
  refine ⟨_, fun _ => eqv40 .eql (.inl rfl) _ _ _ _, rfl, ?_⟩
  refine br_den (fun _ => call_ret (s7 (((hg.le l1).le l2).le l3)) rfl ⟨rfl, trivial⟩ fun H4 _ => ret_den ⟨rfl, rfl⟩) (fun hb => by simp at hb)
end Go.Proofs.YtafnobmndgjeaaaDoor
