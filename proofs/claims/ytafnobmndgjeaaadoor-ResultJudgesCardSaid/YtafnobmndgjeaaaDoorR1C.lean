/- The judge of this seat, and the bound. -/
import Derived.Test.YtafnobmndgjeaaaDoorR1B
namespace Go.Proofs.YtafnobmndgjeaaaDoor
open Go Go.Sx
set_option maxRecDepth 100000

/-- What Judge returns: the outcome. -/
def judgeO (p q : Bool) (x y : Int) (n k : Nat) : Int :=
  if p then (if q then 3 else 2) else if q then 1 else
    if orL [cmpI x y, cmpI n k] = -1 then 2 else if orL [cmpI x y, cmpI n k] = 0 then 3 else 1
theorem cmpI_cases (x y : Int) : cmpI x y = -1 ∨ cmpI x y = 0 ∨ cmpI x y = 1 := by
  unfold cmpI; split
  · simp
  · split <;> simp
theorem orL_cases (x y : Int) (n k : Int) : orL [cmpI x y, cmpI n k] = -1 ∨ orL [cmpI x y, cmpI n k] = 0 ∨ orL [cmpI x y, cmpI n k] = 1 := by
  unfold orL; split
  · unfold orL; split
    · simp [orL]
    · exact cmpI_cases n k
  · exact cmpI_cases x y
/-- The result as Judge gives it. -/
def judgeR (p q : Bool) (r x y : Int) (n k : Nat) : Value := if r < 1 ∨ r > 5 then .agg #[I 0, I 0] else .agg #[I (judgeO p q x y n k), I r]
/-- What Judge reads of a board: its cells, the two players' life, their libraries' lengths. -/
structure JB (c : List Value) (x y : Int) (n k : Nat) : Prop where
  len : c.length = 38
  ones : Ones c
  x : g c 1 = I x
  y : g c 15 = I y
  n : evalPure .len [g c 6] = some (I n)
  k : evalPure .len [g c 20] = some (I k)

theorem args41 {fn : Func} {c : List Value} {p q : Bool} {r : Int} (hc : c.length = 38) (hT : fn.params.toList ++ List.replicate fn.nfree 0 = [33, 34, 35]) (hn : Nat.ble (fn.params.size + fn.nfree) fn.ntmps = true) :
    entryArgs Tryd.prog fn [.agg c.toArray, .agg #[.bool p, .bool q], I r] = some (c ++ [.bool p, .bool q, I r]) :=
  entry_of hT hn (flatOf_agg (n := 38) (by kernel_rfl) (by kernel_rfl) hc (flatOf_agg (cs := [.bool p, .bool q]) (n := 2) (by kernel_rfl) (by kernel_rfl) rfl (flatOf_one (by kernel_rfl) rfl)))

theorem s8 {c : List Value} {x y : Int} {n k : Nat} (hc : JB c x y n k) (p q : Bool) (r : Int) (H : Heap) :
    Ret Tryd.prog 8 [.agg c.toArray, .agg #[.bool p, .bool q], I r] H (judgeR p q r x y n k) := by
  refine run8 (vs := c ++ [.bool p, .bool q, I r]) (args41 hc.len (by kernel_rfl) (by kernel_rfl)) (Ones.append.2 ⟨hc.ones, rfl, rfl, rfl, trivial⟩) ?_
  simp only [t8]
  have e1 : g (c ++ [.bool p, .bool q, I r]) 1 = I x := (g_lt hc.len rfl).trans hc.x
  have e15 : g (c ++ [.bool p, .bool q, I r]) 15 = I y := (g_lt hc.len rfl).trans hc.y
  have e6 : g (c ++ [.bool p, .bool q, I r]) 6 = g c 6 := g_lt hc.len rfl
  have e20 : g (c ++ [.bool p, .bool q, I r]) 20 = g c 20 := g_lt hc.len rfl
  have e38 : g (c ++ [.bool p, .bool q, I r]) 38 = .bool p := g_ge hc.len 0 rfl
  have e39 : g (c ++ [.bool p, .bool q, I r]) 39 = .bool q := g_ge hc.len 1 rfl
  have e40 : g (c ++ [.bool p, .bool q, I r]) 40 = I r := g_ge hc.len 2 rfl
  rw [e1, e15, e6, e20, e38, e39, e40]
  refine fun r0 r1 r2 => pure_den _ (lss_eq _ _) (chkV_den (pure_den _ (gtr_eq _ _) (chkV_den (pure_den _ (pick_eq _ _ _) ?_))))
  have hif : (if decide (r < 1) = true then Value.bool true else .bool (decide (r > 5))) = .bool (decide (r < 1 ∨ r > 5)) := by
    by_cases h : r < 1 <;> simp [h]
  rw [hif]
  refine br_den (fun hb => chkN_den (chkN_den (ret_den ⟨?_, rfl⟩))) (fun hb => ?_)
  · have := of_decide_eq_true hb; simp only [judgeR, if_pos this]
  · have hr := of_decide_eq_false hb
    refine chkN_den (chkN_den fun r3 r4 => chkN_den (chkN_den (chkN_den (chkN_den (chkN_den (pure_den _ hc.n (chkN_den (pure_den _ hc.k ?_))))))))
    refine call_ret (s21 _ _ _) rfl ⟨rfl, trivial⟩ fun H1 _ => call_ret (s21 _ _ _) rfl ⟨rfl, trivial⟩ fun H2 _ => fun r5 => call_retF (I (orL [cmpI x y, cmpI n k])) (fun H3 _ hfr => ?_) rfl ⟨rfl, trivial⟩ fun H4 _ _ => ?_
    · exact s20 (Sl.block (T := 3) (cs := [I (cmpI x y), I (cmpI n k)]) (hfr _ (List.mem_singleton.2 rfl)) ⟨rfl, rfl, trivial⟩ rfl (by omega))
    refine (chkN_den (chkN_den (chkV_den (chkV_den (pure_den _ (pick_eq _ _ _) ?_)))))
    have hpq : (if p = true then Value.bool true else .bool q) = .bool (p || q) := by cases p <;> rfl
    rw [hpq]
    refine br_den (fun hb => chkN_den (br_den (fun h1 => chkN_den (br_den (fun h2 => ?_) (fun h2 => ?_))) (fun h1 => chkN_den (br_den (fun h2 => ?_) (fun h2 => ?_))))) (fun hb => ?_)
    · exact chkN_den (chkN_den (ret_den ⟨by simp [judgeR, if_neg hr, judgeO, h1, h2], rfl⟩))
    · exact chkN_den (chkN_den (ret_den ⟨by simp [judgeR, if_neg hr, judgeO, h1, h2], rfl⟩))
    · exact chkN_den (chkN_den (ret_den ⟨by simp [judgeR, if_neg hr, judgeO, h1, h2], rfl⟩))
    · rw [h1, h2] at hb; cases hb
    · obtain ⟨rfl, rfl⟩ : p = false ∧ q = false := by cases p <;> cases q <;> simp_all
      refine pure_den (I (orL [cmpI x y, cmpI n k] + 1)) ?_ ?_
      · show evalPure (.bin .add .int) [I _, I 1] = _
        simp only [evalPure, evalBin, evalInt, if_true]
        rcases orL_cases x y n k with h | h | h <;> rw [h] <;> rfl
      · rcases orL_cases x y n k with h | h | h
        · refine pure_den (I 2) (by rw [h]; rfl) (chkN_den (chkN_den (ret_den ⟨by simp [judgeR, if_neg hr, judgeO, h], rfl⟩)))
        · refine pure_den (I 3) (by rw [h]; rfl) (chkN_den (chkN_den (ret_den ⟨by simp [judgeR, if_neg hr, judgeO, h], rfl⟩)))
        · refine pure_den (I 1) (by rw [h]; rfl) (chkN_den (chkN_den (ret_den ⟨by simp [judgeR, if_neg hr, judgeO, h], rfl⟩)))
end Go.Proofs.YtafnobmndgjeaaaDoor
