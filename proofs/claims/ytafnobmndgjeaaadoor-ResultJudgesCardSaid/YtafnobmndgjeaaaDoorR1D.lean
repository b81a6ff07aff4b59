/- judges; the bound; the reference's judge. -/
import Derived.Test.YtafnobmndgjeaaaDoorR1C
namespace Go.Proofs.YtafnobmndgjeaaaDoor
open Go Go.Sx
set_option maxRecDepth 100000

def jO (p q : Bool) (r x y : Int) (n k : Nat) : Int := if r < 1 ∨ r > 5 then 0 else judgeO p q x y n k
def jR (r : Int) : Int := if r < 1 ∨ r > 5 then 0 else r
theorem judgeR_eq (p q : Bool) (r x y : Int) (n k : Nat) : judgeR p q r x y n k = .agg #[I (jO p q r x y n k), I (jR r)] := by
  unfold judgeR jO jR; split <;> rfl
theorem s19 {c : List Value} {x y : Int} {n k : Nat} (hc : JB c x y n k) (p q : Bool) (r o : Int) (H : Heap) :
    Ret Tryd.prog 19 [.agg c.toArray, .bool p, .bool q, I r, I o] H (.bool (jO p q r x y n k == o && (jR r == r || (o == 0 && jR r == 0)))) := by
  refine run19 (vs := c ++ [.bool p, .bool q, I r, I o]) (entry_of (Ts := [33, 4, 4, 35, 38]) (by kernel_rfl) (by kernel_rfl) (flatOf_agg (n := 38) (by kernel_rfl) (by kernel_rfl) hc.len
    (flatOf_one (by kernel_rfl) (flatOf_one (by kernel_rfl) (flatOf_one (by kernel_rfl) (flatOf_one (by kernel_rfl) rfl)))))) (Ones.append.2 ⟨hc.ones, rfl, rfl, rfl, rfl, trivial⟩) ?_
  simp only [t19]
  have hl : ∀ i, Nat.ble (i + 1) 38 = true → g (c ++ [.bool p, .bool q, I r, I o]) i = g c i := fun i hi => g_lt hc.len hi
  have e38 : g (c ++ [.bool p, .bool q, I r, I o]) 38 = .bool p := g_ge hc.len 0 rfl
  have e39 : g (c ++ [.bool p, .bool q, I r, I o]) 39 = .bool q := g_ge hc.len 1 rfl
  have e40 : g (c ++ [.bool p, .bool q, I r, I o]) 40 = I r := g_ge hc.len 2 rfl
  have e41 : g (c ++ [.bool p, .bool q, I r, I o]) 41 = I o := g_ge hc.len 3 rfl
  rw [e38, e39, e40, e41]
  refine fun r0 => chkN_den ?_
  have h8 := s8 hc p q r H
  rw [judgeR_eq, ← range_take (c := c) (d := [.bool p, .bool q, I r, I o]) hc.len] at h8
  refine call_ret h8 rfl ⟨rfl, rfl, trivial⟩ fun H1 _ => fun r1 => ?_
  simp [Tree.den, g, eql_eq, Ck.holds, On, pick_eq, Cons, ghost_ex]
  intros; rw [Bool.eq_iff_iff]; simp
theorem mul_eq (a b : Int) : evalPure (.bin .mul .int) [I a, I b] = some (I (IntKind.i64.wrap (a * b))) := by simp [evalPure, evalBin, evalInt]
theorem add_eq (a b : Int) : evalPure (.bin .add .int) [I a, I b] = some (I (IntKind.i64.wrap (a + b))) := by simp [evalPure, evalBin, evalInt]
/-- The bound. -/
def promptsI (b c d e f : Int) : Int := 2 * (b + 1) + f * (24 * c + 4 * e + 5 * d + 6)
theorem valid_iff {a b c d e f : Int} : validB a b c d e f = true ↔ (1 ≤ a ∧ a ≤ 9999) ∧ (0 ≤ b ∧ b ≤ 7) ∧ (1 ≤ c ∧ c ≤ 100) ∧ (40 ≤ d ∧ d ≤ 500) ∧ (0 ≤ e ∧ e ≤ 100) ∧ (1 ≤ f ∧ f ≤ 200) := by
  simp [validB]
theorem mul_bd {f t : Int} (hf : 1 ≤ f ∧ f ≤ 200) (ht : 0 ≤ t ∧ t ≤ 100000) : 0 ≤ f * t ∧ f * t ≤ 20000000 := by
  constructor
  · exact Int.mul_nonneg (by omega) ht.1
  · have h1 : f * t ≤ 200 * t := Int.mul_le_mul_of_nonneg_right hf.2 ht.1
    omega
theorem s10 (a b c d e f : Int) (H : Heap) : Ret Tryd.prog 10 [.agg #[I a, I b, I c, I d, I e, I f]] H
    (if validB a b c d e f = true then .tuple #[I (promptsI b c d e f), I 0] else .tuple #[I 0, I 2]) := by
  refine run10 (vs := [I a, I b, I c, I d, I e, I f]) (by kernel_rfl) ⟨rfl, rfl, rfl, rfl, rfl, rfl, trivial⟩ ?_
  simp only [t10]
  refine fun r0 => chkN_den (call_ret (s22 a b c d e f H) rfl ⟨rfl, trivial⟩ fun H1 _ => pure_den _ (not_eq' _) (br_den (fun hb => ret_den ⟨?_, rfl⟩) (fun hb => ?_)))
  · rw [if_neg (by simpa using hb)]
  · have hv : validB a b c d e f = true := by simpa using hb
    rw [if_pos hv]
    obtain ⟨h1, h2, h3, h4, h5, h6⟩ := valid_iff.1 hv
    have w : ∀ {n : Int}, -9223372036854775808 ≤ n ∧ n ≤ 9223372036854775807 → IntKind.i64.wrap n = n := fun h => wrap_id h.1 h.2
    have hm := mul_bd (t := 2 * c * 12 + 4 * e + 4 * d + d + 6) h6 (by omega)
    refine chkN_den (pure_den (I (2 * c)) ((mul_eq _ _).trans (by rw [w (by omega)])) (pure_den (I (2 * c * 12)) ((mul_eq _ _).trans (by rw [w (by omega)])) (chkN_den (pure_den (I (4 * e)) ((mul_eq _ _).trans (by rw [w (by omega)])) ?_))))
    refine chkN_den (pure_den (I (4 * d)) ((mul_eq _ _).trans (by rw [w (by omega)])) (pure_den (I (2 * c * 12 + 4 * e)) ((add_eq _ _).trans (by rw [w (by omega)])) (pure_den (I (2 * c * 12 + 4 * e + 4 * d)) ((add_eq _ _).trans (by rw [w (by omega)])) ?_)))
    refine chkN_den (pure_den (I (2 * c * 12 + 4 * e + 4 * d + d)) ((add_eq _ _).trans (by rw [w (by omega)])) (pure_den (I (2 * c * 12 + 4 * e + 4 * d + d + 6)) ((add_eq _ _).trans (by rw [w (by omega)])) ?_))
    refine chkN_den (pure_den (I (b + 1)) ((add_eq _ _).trans (by rw [w (by omega)])) (pure_den (I (2 * (b + 1))) ((mul_eq _ _).trans (by rw [w (by omega)])) ?_))
    refine chkN_den (pure_den (I (f * (2 * c * 12 + 4 * e + 4 * d + d + 6))) ((mul_eq _ _).trans (by rw [w (by omega)])) (pure_den (I (2 * (b + 1) + f * (2 * c * 12 + 4 * e + 4 * d + d + 6))) ((add_eq _ _).trans (by rw [w (by omega)])) (ret_den ⟨?_, rfl⟩)))
    show Value.tuple #[I _, I 0] = _
    rw [promptsI, show 2 * c * 12 + 4 * e + 4 * d + d + 6 = 24 * c + 4 * e + 5 * d + 6 by omega]
theorem s12 (a b c d e f : Int) (hv : validB a b c d e f = true) (H : Heap) : Ret Tryd.prog 12 [.agg #[I a, I b, I c, I d, I e, I f]] H (I (promptsI b c d e f)) := by
  refine run12 (vs := [I a, I b, I c, I d, I e, I f]) (by kernel_rfl) ⟨rfl, rfl, rfl, rfl, rfl, rfl, trivial⟩ ?_
  simp only [t12]
  obtain ⟨h1, h2, h3, h4, h5, h6⟩ := valid_iff.1 hv
  have w : ∀ {n : Int}, -9223372036854775808 ≤ n ∧ n ≤ 9223372036854775807 → IntKind.i64.wrap n = n := fun h => wrap_id h.1 h.2
  have hm := mul_bd (t := 24 * c + 4 * e + 5 * d + 6) h6 (by omega)
  refine fun r0 => chkN_den (pure_den (I (b + 1)) ((add_eq _ _).trans (by rw [w (by omega)])) (pure_den (I (2 * (b + 1))) ((mul_eq _ _).trans (by rw [w (by omega)])) ?_))
  refine chkN_den (chkN_den (pure_den (I (24 * c)) ((mul_eq _ _).trans (by rw [w (by omega)])) (chkN_den (pure_den (I (4 * e)) ((mul_eq _ _).trans (by rw [w (by omega)])) (pure_den (I (24 * c + 4 * e)) ((add_eq _ _).trans (by rw [w (by omega)])) ?_)))))
  refine chkN_den (pure_den (I (5 * d)) ((mul_eq _ _).trans (by rw [w (by omega)])) (pure_den (I (24 * c + 4 * e + 5 * d)) ((add_eq _ _).trans (by rw [w (by omega)])) (pure_den (I (24 * c + 4 * e + 5 * d + 6)) ((add_eq _ _).trans (by rw [w (by omega)])) ?_)))
  refine pure_den (I (f * (24 * c + 4 * e + 5 * d + 6))) ((mul_eq _ _).trans (by rw [w (by omega)])) (pure_den (I (2 * (b + 1) + f * (24 * c + 4 * e + 5 * d + 6))) ((add_eq _ _).trans (by rw [w (by omega)])) (ret_den ⟨rfl, rfl⟩))
end Go.Proofs.YtafnobmndgjeaaaDoor
