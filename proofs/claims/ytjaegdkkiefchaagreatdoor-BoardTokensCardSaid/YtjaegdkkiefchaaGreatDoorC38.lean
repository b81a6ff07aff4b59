/- A token: its numbers. -/
import Derived.Test.YtjaegdkkiefchaaGreatDoorM4
import Derived.Test.YtjaegdkkiefchaaGreatDoorKN
import Derived.Lib.Overlaps
import Derived.Lib.AppendZerosOnto
namespace Go.Proofs.YtjaegdkkiefchaaGreatDoor
open Go Go.Sx
set_option maxRecDepth 100000
set_option maxHeartbeats 1000000
theorem min2_eq (x y : Int) : evalPure .min2 [iV x, iV y] = some (iV (min x y)) := by
 simp only [evalPure]; congr 2; omega
theorem max2_eq (x y : Int) : evalPure .max2 [iV x, iV y] = some (iV (max x y)) := by
 simp only [evalPure]; congr 2; omega
theorem add_fit {x y : Int} (h1 : -9223372036854775808 ≤ x + y) (h2 : x + y < 9223372036854775808) : evalPure (.bin .add .int) [iV x, iV y] = some (iV (x + y)) := by
 simp only [evalPure, evalBin, evalInt, if_true]
 rw [wrap_id (by omega) (by omega)]
/-- A number of a token. -/
def tokN (p : Int) : Int := max 0 (min p 99)
theorem r_Add {H : Heap} {O : Own} (p : Int) : RetO PP F_zeitnotref14_Add [iV 0, iV p] H O (iV (tokN p)) := by
 refine run_zeitnotref14_Add (vs := [iV 0, iV p]) (by kernel_rfl) ⟨rfl, rfl, trivial⟩ ?_
 simp only [T_zeitnotref14_Add]
 refine pure_den _ (min2_eq _ _) (pure_den _ (max2_eq _ _) (pure_den _ (min2_eq _ _) (pure_den _ (max2_eq _ _) (pure_den _ (add_fit ?_ ?_) (pure_den _ (min2_eq _ _) (ret_denO ⟨?_, rfl⟩))))))
 ·omega
 ·omega
 ·rw [tokN]; congr 1; omega
theorem c_sat_plus {H : Heap} {O : Own} {p : Int} (h0 : 0 ≤ p) (hp : p < 9223372036854775808) : RetO PP F_sat_plus [iV 0, iV p] H O (iV p) := by
 refine run_sat_plus (vs := [iV 0, iV p]) (by kernel_rfl) ⟨rfl, rfl, trivial⟩ ?_
 simp only [T_sat_plus]
 refine pure_den _ (add_fit (by omega) (by omega)) (pure_den _ (gtr_eq _ _) ?_)
 repeat (first | refine chkN_den ?_ | refine chkV_den ?_)
 refine pure_den _ (gtr_eq _ _) ?_
 repeat (first | refine chkN_den ?_ | refine chkV_den ?_)
 refine pure_den _ (pick_and _ _) ?_
 repeat (first | refine chkN_den ?_ | refine chkV_den ?_)
 refine pure_den _ (leq_eq _ _) ?_
 repeat (first | refine chkN_den ?_ | refine chkV_den ?_)
 refine pure_den _ (pick_and _ _) (br_den (fun hb => by simp at hb) (fun _ => ?_))
 repeat (first | refine chkN_den ?_ | refine chkV_den ?_)
 refine pure_den _ (lss_eq _ _) ?_
 repeat (first | refine chkN_den ?_ | refine chkV_den ?_)
 refine pure_den _ (lss_eq _ _) ?_
 repeat (first | refine chkN_den ?_ | refine chkV_den ?_)
 refine pure_den _ (pick_and _ _) ?_
 repeat (first | refine chkN_den ?_ | refine chkV_den ?_)
 refine pure_den _ (geq_eq _ _) ?_
 repeat (first | refine chkN_den ?_ | refine chkV_den ?_)
 refine pure_den _ (pick_and _ _) (br_den (fun hb => by simp at hb) (fun _ => ?_))
 repeat (first | refine chkN_den ?_ | refine chkV_den ?_)
 exact ret_denO ⟨by rw [Int.zero_add], rfl⟩
theorem c_Clamp {H : Heap} {O : Own} (p m : Int) : RetO PP F_sat_Clamp [iV p, iV m] H O (iV (max 0 (min p m))) := by
 refine run_sat_Clamp (vs := [iV p, iV m]) (by kernel_rfl) ⟨rfl, rfl, trivial⟩ ?_
 simp only [T_sat_Clamp]
 exact pure_den _ (min2_eq _ _) (pure_den _ (max2_eq _ _) (ret_denO ⟨rfl, rfl⟩))
theorem c_sat_Add {H : Heap} {O : Own} {p : Int} (h0 : 0 ≤ p) (hp : p < 9223372036854775808) : RetO PP F_sat_Add [iV 0, iV p, iV 99] H O (iV (tokN p)) := by
 refine run_sat_Add (vs := [iV 0, iV p, iV 99]) (by kernel_rfl) ⟨rfl, rfl, rfl, trivial⟩ ?_
 simp only [T_sat_Add]
 exact call_retO (c_sat_plus h0 hp) rfl ⟨rfl, trivial⟩ fun _ _ => call_retO (c_Clamp p 99) rfl ⟨rfl, trivial⟩ fun _ _ => ret_denO ⟨rfl, rfl⟩
theorem c_plus {H : Heap} {O : Own} {p : Int} (hp : p < 9223372036854775808) : RetO PP F_object_plus [iV 0, iV p] H O (iV (tokN p)) := by
 refine run_object_plus (vs := [iV 0, iV p]) (by kernel_rfl) ⟨rfl, rfl, trivial⟩ ?_
 simp only [T_object_plus]
 refine pure_den _ (max2_eq _ _) (pure_den _ (max2_eq _ _) ?_)
 rw [show max (0 : Int) 0 = 0 by omega]
 refine call_retO (c_sat_Add (p := max 0 p) (by omega) (by omega)) rfl ⟨rfl, trivial⟩ fun _ _ => ret_denO ⟨?_, rfl⟩
 show iV _ = iV _
 congr 1; simp only [tokN]; omega
/-- A token as it comes into play. -/
def tokO (id p pw tn : Int) (sick : Bool) : Ob := { zO with id := id, card := -1, owner := p, power := tokN pw, tough := tokN tn, sick := sick }
theorem c_object_Token {H : Heap} {O : Own} {id p pw tn : Int} (h1 : pw < 9223372036854775808) (h2 : tn < 9223372036854775808) : RetO PP F_object_Token [iV id, iV p, iV pw, iV tn] H O (.agg (tokO id p pw tn false).row.toArray) := by
 refine run_object_Token (vs := [iV id, iV p, iV pw, iV tn]) (by kernel_rfl) ⟨rfl, rfl, rfl, rfl, trivial⟩ ?_
 simp only [T_object_Token]
 refine newbox_den fun r0 => call_retO (c_plus h1) rfl ⟨rfl, trivial⟩ fun _ _ => call_retO (c_plus h2) rfl ⟨rfl, trivial⟩ fun _ _ => ?_
 repeat (first | refine chkN_den ?_ | refine chkV_den ?_)
 exact ret_denO ⟨rfl, rfl⟩
end Go.Proofs.YtjaegdkkiefchaaGreatDoor
namespace Go.Sx
open Go
set_option maxRecDepth 100000
set_option maxHeartbeats 1000000
/-- A word. -/
abbrev uV (n : Nat) : Value := .int .u64 (n : Int)
theorem wrapU {n : Nat} (h : n < 2 ^ 64) : IntKind.u64.wrap (n : Int) = n := by
 simp only [IntKind.wrap, IntKind.bits, IntKind.signed]
 simp
 omega
theorem and_u {a b : Nat} (ha : a < 2 ^ 64) (hb : b < 2 ^ 64) : evalPure (.bin .and .int) [uV a, uV b] = some (uV (a &&& b)) := by
 show some (Value.int .u64 (IntKind.u64.wrap ((BitVec.ofNat 64 a &&& BitVec.ofNat 64 b).toNat : Int))) = _
 rw [BitVec.toNat_and, BitVec.toNat_ofNat, BitVec.toNat_ofNat, Nat.mod_eq_of_lt ha, Nat.mod_eq_of_lt hb, wrapU (Nat.and_lt_two_pow a hb)]
theorem or_u {a b : Nat} (ha : a < 2 ^ 64) (hb : b < 2 ^ 64) : evalPure (.bin .or .int) [uV a, uV b] = some (uV (a ||| b)) := by
 show some (Value.int .u64 (IntKind.u64.wrap ((BitVec.ofNat 64 a ||| BitVec.ofNat 64 b).toNat : Int))) = _
 rw [BitVec.toNat_or, BitVec.toNat_ofNat, BitVec.toNat_ofNat, Nat.mod_eq_of_lt ha, Nat.mod_eq_of_lt hb, wrapU (Nat.or_lt_two_pow ha hb)]
theorem compl_u {a : Nat} (ha : a < 2 ^ 64) : evalPure .compl [uV a] = some (uV (2 ^ 64 - 1 ^^^ a)) := by
 show some (Value.int .u64 (IntKind.u64.wrap ((BitVec.ofNat 64 (2 ^ 64 - 1) ^^^ BitVec.ofNat 64 a).toNat : Int))) = _
 rw [BitVec.toNat_xor, BitVec.toNat_ofNat, BitVec.toNat_ofNat, Nat.mod_eq_of_lt ha, Nat.mod_eq_of_lt (by omega), wrapU (Nat.xor_lt_two_pow (by omega) ha)]
theorem neg_u {a : Nat} (ha : a < 2 ^ 64) (h0 : 0 < a) : evalPure .neg [uV a] = some (uV (2 ^ 64 - a)) := by
 show some (Value.int .u64 (IntKind.u64.wrap (0 - (a : Int)))) = _
 congr 2
 simp only [IntKind.wrap, IntKind.bits, IntKind.signed]
 simp
 omega
theorem shl_u {r : Nat} (h : r < 64) : evalPure (.bin .shl .int) [uV 1, .int .i64 r] = some (uV (2 ^ r)) := by
 have e : evalPure (.bin .shl .int) [uV 1, .int .i64 r] = (if (r : Int) < 0 then none else some (Value.int .u64 (IntKind.u64.wrap ((1 : Nat) * 2 ^ (min (r : Int).toNat 64))))) := rfl
 rw [e, if_neg (by omega), Int.toNat_natCast, Nat.min_eq_left (by omega)]
 congr 2
 rw [← wrapU (n := 2 ^ r) (Nat.pow_lt_pow_right (by omega) h)]
 congr 1
 simp
theorem neq_u (a b : Nat) : evalPure (.bin .neq .int) [uV a, uV b] = some (.bool (a != b)) := by
 show some (Value.bool ((a : Int) != b)) = _
 congr 2
 rw [Bool.eq_iff_iff]; simp; omega
theorem eql_u (a b : Nat) : evalPure (.bin .eql .int) [uV a, uV b] = some (.bool (a == b)) := by
 show some (Value.bool ((a : Int) == b)) = _
 congr 2
 rw [Bool.eq_iff_iff]; simp; omega
theorem add_u {a b : Nat} (h : a + b < 2 ^ 64) : evalPure (.bin .add .int) [uV a, uV b] = some (uV (a + b)) := by
 show some (Value.int .u64 (IntKind.u64.wrap ((a : Int) + b))) = _
 rw [show (a : Int) + b = ((a + b : Nat) : Int) by omega, wrapU h]
/-- The least place of a number that is not 0 whose bit is set. -/
theorem low_bit : ∀ {n x : Nat}, 0 < x → x < 2 ^ n → ∃ k m, k < n ∧ x = 2 ^ k * (2 * m + 1)
 | 0, x, h0, h => by simp at h; omega
 | n + 1, x, h0, h => by
  rcases Nat.mod_two_eq_zero_or_one x with e | e
  ·obtain ⟨k, m, h1, h2⟩ := low_bit (n := n) (x := x / 2) (by omega) (by rw [Nat.pow_succ] at h; omega)
   refine ⟨k + 1, m, by omega, ?_⟩
   have : x = 2 * (x / 2) := by omega
   rw [this, h2, Nat.pow_succ]; ac_rfl
  ·exact ⟨0, x / 2, by omega, by omega⟩
theorem bit_low {k m : Nat} (j : Nat) : (2 ^ k * (2 * m + 1)).testBit j = (decide (k ≤ j) && (2 * m + 1).testBit (j - k)) := Nat.testBit_two_pow_mul
theorem low_pred {k m : Nat} : 2 ^ k * (2 * m + 1) - 1 = 2 ^ k * (2 * m) + (2 ^ k - 1) := by
 have := Nat.two_pow_pos k
 rw [Nat.mul_add]; omega
theorem low_and {x k m : Nat} (hx : x < 2 ^ 64) (h : x = 2 ^ k * (2 * m + 1)) : x &&& (2 ^ 64 - x) = 2 ^ k := by
 have hp := Nat.two_pow_pos k
 have h0 : 0 < x := by rw [h]; exact Nat.mul_pos hp (by omega)
 refine Nat.eq_of_testBit_eq fun j => ?_
 rw [Nat.testBit_and, show 2 ^ 64 - x = 2 ^ 64 - ((x - 1) + 1) by omega, Nat.testBit_two_pow_sub_succ (by omega), Nat.testBit_two_pow, h, bit_low, low_pred, Nat.testBit_two_pow_mul_add _ (by omega), Nat.testBit_two_pow_sub_one]
 by_cases hj : j < k
 ·rw [if_pos hj, decide_eq_false (show ¬ k ≤ j by omega), decide_eq_false (show ¬ k = j by omega)]; rfl
 ·rw [if_neg hj]
  obtain ⟨d, rfl⟩ : ∃ d, j = k + d := ⟨j - k, by omega⟩
  rw [Nat.add_sub_cancel_left]
  cases d with
  | zero =>
   have : k < 64 := by
    refine Nat.lt_of_not_le fun hk => ?_
    have := Nat.pow_le_pow_right (n := 2) (by omega) hk
    have h2 : 2 ^ k * 1 ≤ 2 ^ k * (2 * m + 1) := Nat.mul_le_mul_left _ (by omega)
    omega
   simp [this]
  | succ d =>
   rw [Nat.testBit_succ, Nat.testBit_succ, show (2 * m + 1) / 2 = m by omega, show 2 * m / 2 = m by omega]
   cases m.testBit d <;> simp
/-- All bits below the least one are off. -/
theorem low_off {x k m j : Nat} (h : x = 2 ^ k * (2 * m + 1)) (hj : j < k) : x.testBit j = false := by rw [h, bit_low]; simp; omega
theorem low_on {x k m : Nat} (h : x = 2 ^ k * (2 * m + 1)) : x.testBit k = true := by rw [h, bit_low]; simp
end Go.Sx
namespace Go.Sx
open Go
set_option maxRecDepth 100000
set_option maxHeartbeats 1000000
/-- Cells of rows of one. -/
theorem rep_flat (z : Value) : ∀ n, List.replicate n z = (List.replicate n [z]).flatten
 | 0 => rfl
 | n + 1 => by rw [List.replicate_succ, List.replicate_succ, List.flatten_cons, ← rep_flat z n]; rfl
theorem rep_one (z : Value) : ∀ n, repVals [z] n = List.replicate n z
 | 0 => rfl
 | n + 1 => by rw [repVals, rep_one z n]; rfl
theorem make_new {P : Program} {t elem : TypeId} {z : Value} (hu : P.underlying t = some (.slice elem)) (hs : szOf P elem = some 1) (hz : zeroOf P elem = some [.k z]) (hby : ((P.info? elem).map fun i => decide (i.bytes ≤ 16)).getD false = true) (hzo : z.oneCell' = true)
  {n : Nat} (hn : n ≤ 65536) {H : Heap} {O : Own} {K : List Value → List (List Value) → Heap → Own → Prop} (hk : ∀ v A, OSl elem 1 v (List.replicate n [z]) A → K [v] [] H (A ++ O)) :
  CallD (fun H1 O1 R => OpTriple P ((PrimOp.makeSlice t).sem [iV n, iV n]) H1 O1 R) false [] [] .one K H O := by
 obtain ⟨zv, hzr, hzc, _, _⟩ := zeroOf_run hz
 have hrun : ∀ w, ((PrimOp.makeSlice t).sem [iV n, iV n]).run P w = .ok (.value (.slice (some ⟨w.heap.size, 0, none⟩) n n)) { w with heap := w.heap.push (.cells (List.replicate n z).toArray elem (0, 0)) } := by
  intro w
  have hzc' : zv.cells = #[z] := by
   apply Array.ext'
   rw [hzc]; rfl
  have hrep : ((Array.range (n * 1)).map fun i => (#[z] : Array Value)[i % (#[z] : Array Value).size]!) = (List.replicate n z).toArray := by
   have := repCells_spec [z] (by simp) n
   apply Array.ext'
   rw [← rep_one, ← this]
   simp
  cases hi : P.info? elem with
  | none => rw [hi] at hby; simp at hby
  | some i =>
   rw [hi] at hby
   simp only [Option.map_some, Option.getD_some, decide_eq_true_eq] at hby
   have w1 : IntKind.i64.wrap (n : Int) = n := wrap_id (by omega) (by omega)
   have hby' : ¬ ((i.bytes : Int) * (n : Int) > 2 ^ 48) := by
    have h1 : i.bytes * n ≤ 16 * 65536 := Nat.mul_le_mul hby hn
    have e : ((i.bytes * n : Nat) : Int) = (i.bytes : Int) * (n : Int) := Int.natCast_mul _ _
    omega
   have hcnd : ¬ (((decide ((n : Int) < 0) || decide ((i.bytes : Int) * (n : Int) > 2 ^ 48)) || decide ((n : Int) < 0) || decide ((n : Int) > (n : Int))) = true) := by
    simp only [Bool.or_eq_true, decide_eq_true_eq]
    omega
   have hti : (typeInfo elem).run P w = .ok i w := by simp [typeInfo, hi]
   have hA : (asInt (.int .i64 (n : Int))).run P w = .ok (n : Int) w := rfl
   show ((do pure (Next.value (← Instr.makeSlice t (iV n) (iV n)))) : Sem Next).run P w = _
   rw [Sem.run_bind]
   unfold Instr.makeSlice
   rw [Sem.run_bind, run_underlying' hu]
   simp only [Result.andThen_ok]
   rw [Sem.run_bind, hA, Result.andThen_ok, Sem.run_bind, hA, Result.andThen_ok, Sem.run_bind, hti, Result.andThen_ok]
   simp only [w1]
   rw [if_neg hcnd]
   by_cases h0 : n * 1 = 0
   ·have hm0 : n = 0 := by omega
    subst hm0
    simp only [Sem.run_bind, run_askRoom, run_sizeOf' hs, Result.andThen_ok, Int.toNat_natCast, Nat.zero_mul, if_true, Sem.run_pure, show Array.range 0 = #[] from rfl, Array.map_empty, newRow, run_newObj, List.replicate]
   ·simp only [Sem.run_bind, run_askRoom, run_sizeOf' hs, Result.andThen_ok, Int.toNat_natCast, h0, if_false, hzr, Sem.run_pure, hzc', hrep, newRow, run_newObj]
 intro hc
 refine ⟨H, [], O, fun v H' O' => H' = H ∧ ∃ A, O' = A ∧ OSl elem 1 v (List.replicate n [z]) A, Ghost.refl _ _, ?_, ?_⟩
 ·intro w F hm
  have hp := hm.push (.cells (List.replicate n z).toArray elem (0, 0))
  refine ⟨_, _, H, [(w.heap.size, .cells (List.replicate n z).toArray elem (0, 0))], hrun w, ⟨rfl, _, rfl, .inr ⟨w.heap.size, List.replicate n z, n, ?_, rfl, ?_, ?_, ?_, ?_, ?_, ?_⟩⟩, Heap.le_refl H, ?_⟩
  ·rw [List.length_replicate]
  ·rw [List.length_replicate, Nat.mul_one]
  ·rw [List.length_replicate]; exact Nat.le_refl _
  ·omega
  ·intro row hr; rw [List.eq_of_mem_replicate hr]; rfl
  ·intro row hr; rw [List.eq_of_mem_replicate hr]; exact ⟨hzo, trivial⟩
  ·rw [List.length_replicate, Nat.mul_one, List.take_of_length_le (by simp)]
   exact rep_flat z n
  ·simpa using hp
 ·rintro v H' O' ⟨rfl, A, rfl, h⟩ _
  exact ⟨[v], [], O', rfl, ⟨h.one, trivial⟩, trivial, rfl, hk v O' h⟩
end Go.Sx
namespace Go.Proofs.YtjaegdkkiefchaaGreatDoor
open Go Go.Sx
set_option maxRecDepth 100000
set_option maxHeartbeats 1000000
theorem tz_tab : ∀ k : Nat, k < 64 → (bruijn.drop (2 ^ k * 285870213051353865 % 2 ^ 64 / 2 ^ 58)).take 1 = [(k : Int)] := by decide +kernel
theorem mul_u (a b : Nat) : evalPure (.bin .mul .int) [uV a, uV b] = some (uV (a * b % 2 ^ 64)) := by
 show some (Value.int .u64 (IntKind.u64.wrap ((a : Int) * b))) = _
 congr 2
theorem shr_u (a : Nat) : evalPure (.bin .shr .int) [uV a, uV 58] = some (uV (a / 2 ^ 58)) := by
 show some (Value.int .u64 ((a : Int).fdiv (2 ^ 58))) = _
 congr 2
 rw [Int.fdiv_eq_ediv_of_nonneg _ (by omega)]
 omega
theorem c_tz {H : Heap} (hgl : GlobOk glob0 H) (O : Own) {x k m : Nat} (hx : x < 2 ^ 64) (hk : k < 64) (e : x = 2 ^ k * (2 * m + 1)) : RetO PP F_math_bits_TrailingZeros64 [uV x] H O (iV k) := by
 have hp := Nat.two_pow_pos k
 have h0 : 0 < x := by rw [e]; exact Nat.mul_pos hp (by omega)
 have hpk : 2 ^ k < 2 ^ 64 := Nat.pow_lt_pow_right (by omega) hk
 have t2 := tz_tab k hk
 have t1 := mul_u (2 ^ k) 285870213051353865
 refine run_math_bits_TrailingZeros64 (vs := [uV x]) (by kernel_rfl) ⟨rfl, trivial⟩ ?_
 simp only [T_math_bits_TrailingZeros64]
 refine pure_den _ (eql_u x 0) (br_den (fun hb => ?_) (fun _ => ?_))
 ·have : x = 0 := by simpa using hb
  omega
 ·refine pure_den _ (neg_u hx h0) (pure_den _ (and_u hx (by omega)) ?_)
  rw [low_and hx e]
  generalize hM : 2 ^ k * 285870213051353865 % 2 ^ 64 = M at t1 t2
  have hM64 : M < 2 ^ 64 := by rw [← hM]; exact Nat.mod_lt _ (by omega)
  have hi : M / 2 ^ 58 < 64 := by omega
  refine pure_den _ t1 (pure_den _ (shr_u M) ?_)
  have hpi : evalPure (.pidx 64 1) [.pointer (some ⟨0, 0, none⟩), uV (M / 2 ^ 58)] = some (.pointer (some ⟨0, M / 2 ^ 58, none⟩)) := by
   show (if (0 : Int) ≤ ((M / 2 ^ 58 : Nat) : Int) ∧ ((M / 2 ^ 58 : Nat) : Int) < (64 : Nat) then some (Value.pointer (some (Addr.add ⟨0, 0, none⟩ (((M / 2 ^ 58 : Nat) : Int).toNat * 1)))) else none) = _
   rw [if_pos ⟨by omega, by omega⟩, Int.toNat_natCast, Nat.mul_one, Addr.add]
   by_cases h : M / 2 ^ 58 = 0
   ·rw [if_pos h, h]
   ·rw [if_neg h]; simp
  have hrd : H.read (.pointer (some ⟨0, M / 2 ^ 58, none⟩)) 1 = some [Value.int .u8 k] := by
   have := (hgl 0 (bruijn.map fun n => Value.int .u8 n) rfl).2 (M / 2 ^ 58) 1 (by rw [List.length_map]; show _ ≤ 64; omega)
   rw [this, ← List.map_drop, ← List.map_take, t2]; rfl
  refine pure_den _ hpi (load_den hrd rfl ⟨rfl, trivial⟩ (pure_den (iV k) ?_ (ret_denO ⟨rfl, rfl⟩)))
  show some (Value.int .i64 (IntKind.i64.wrap (k : Int))) = _
  rw [wrap_id (by omega) (by omega)]
theorem c_tz0 {H : Heap} (O : Own) : RetO PP F_math_bits_TrailingZeros64 [uV 0] H O (iV 64) := by
 refine run_math_bits_TrailingZeros64 (vs := [uV 0]) (by kernel_rfl) ⟨rfl, trivial⟩ ?_
 simp only [T_math_bits_TrailingZeros64]
 exact pure_den _ (eql_u 0 0) (br_den (fun _ => ret_denO ⟨rfl, rfl⟩) (fun hb => by simp at hb))
/-- The cells of words. -/
def words (ws : List Nat) : List (List Value) := ws.map fun w => [uV w]
/-- Ids from 1 to 500, that are owned. -/
def OIds (p : Value) (ws : List Nat) (O : Own) : Prop :=
 ∃ r s A, p = .pointer (some ⟨r, 0, none⟩) ∧ O = (r, .cells #[iV 500, s] Ty_ident_Ids (0, 0)) :: A ∧ OSl Ty_uint64 1 s (words ws) A
theorem box_read0 {r : Nat} {s : Value} {A : Own} {H : Heap} : Reads H ((r, .cells #[iV 500, s] Ty_ident_Ids (0, 0)) :: A) (.pointer (some ⟨r, 0, none⟩)) 1 [iV 500] :=
 .inr ⟨⟨r, 0, none⟩, _, _, rfl, rfl, List.mem_cons_self, rfl, rfl⟩
theorem box_read1 {r : Nat} {s : Value} {A : Own} {H : Heap} : Reads H ((r, .cells #[iV 500, s] Ty_ident_Ids (0, 0)) :: A) (ptrAdd (.pointer (some ⟨r, 0, none⟩)) 1) 1 [s] :=
 .inr ⟨⟨r, 1, none⟩, _, _, rfl, rfl, List.mem_cons_self, rfl, rfl⟩
theorem c_idsNew {H : Heap} : Triple PP F_ident_New [iV 500] H [] fun v H' O' => ∃ p, v = .tuple #[p, iV 0] ∧ OIds p (List.replicate 8 0) O' := by
 refine run_ident_New (vs := [iV 500]) (by kernel_rfl) ⟨rfl, trivial⟩ ?_
 simp only [T_ident_New]
 repeat (first | refine chkN_den ?_ | refine chkV_den ?_ | refine newbox_den fun _ => ?_ | refine pure_den _ (lss_eq _ _) ?_ | refine pure_den _ (gtr_eq _ _) ?_ | refine pure_den _ (leq_eq _ _) ?_ | refine pure_den _ (geq_eq _ _) ?_ | refine pure_den _ (eql_eq _ _) ?_ | refine pure_den _ (neq_eq _ _) ?_ | refine pure_den _ (pick_and _ _) ?_ | refine pure_den _ (pick_or _ _) ?_ | refine pure_den _ (not_eq' _) ?_ | refine pure_den _ (beql_eq _ _) ?_ | refine pure_den _ (bneq_eq _ _) ?_)
 refine br_den (fun hb => by simp at hb) (fun _ => ?_)
 repeat (first | refine chkN_den ?_ | refine chkV_den ?_)
 refine pure_den (iV 564) (by kernel_rfl) ?_
 repeat (first | refine chkN_den ?_ | refine chkV_den ?_)
 refine pure_den (iV 563) (by kernel_rfl) ?_
 repeat (first | refine chkN_den ?_ | refine chkV_den ?_)
 refine pure_den (iV (8 : Nat)) (by kernel_rfl) ?_
 repeat (first | refine chkN_den ?_ | refine chkV_den ?_)
 refine make_new (n := 8) (elem := Ty_uint64) (z := uV 0) (by kernel_rfl) (by kernel_rfl) (by kernel_rfl) (by kernel_rfl) rfl (by omega) fun s A hs => ?_
 refine newbox_den fun r0 => ?_
 repeat (first | refine chkN_den ?_ | refine chkV_den ?_)
 exact fun _ => ⟨H, _, Ghost.refl _ _, _, rfl, r0, s, A, rfl, by simp [BV.obj, g], hs⟩
theorem c_zero {H : Heap} {r : Nat} {s : Value} {A : Own} (hs : s.oneCell' = true) : RetO PP F_ident_Ids_zero [.pointer (some ⟨r, 0, none⟩)] H ((r, .cells #[iV 500, s] Ty_ident_Ids (0, 0)) :: A) (.bool false) := by
 refine run_ident_Ids_zero (vs := [.pointer (some ⟨r, 0, none⟩)]) (by kernel_rfl) ⟨rfl, trivial⟩ ?_
 simp only [T_ident_Ids_zero]
 refine pure_den (.bool false) rfl ?_
 repeat (first | refine chkN_den ?_ | refine chkV_den ?_ | refine chkP_den rfl ?_)
 refine ⟨[iV 500], rfl, ⟨rfl, trivial⟩, fun _ => box_read0, ?_⟩
 repeat (first | refine chkN_den ?_ | refine chkV_den ?_ | refine newbox_den fun _ => ?_ | refine pure_den _ (lss_eq _ _) ?_ | refine pure_den _ (gtr_eq _ _) ?_ | refine pure_den _ (leq_eq _ _) ?_ | refine pure_den _ (geq_eq _ _) ?_ | refine pure_den _ (eql_eq _ _) ?_ | refine pure_den _ (neq_eq _ _) ?_ | refine pure_den _ (pick_and _ _) ?_ | refine pure_den _ (pick_or _ _) ?_ | refine pure_den _ (not_eq' _) ?_ | refine pure_den _ (beql_eq _ _) ?_ | refine pure_den _ (bneq_eq _ _) ?_)
 exact ret_denO ⟨rfl, rfl⟩
end Go.Proofs.YtjaegdkkiefchaaGreatDoor
namespace Go.Proofs.YtjaegdkkiefchaaGreatDoor
open Go Go.Sx
set_option maxRecDepth 100000
set_option maxHeartbeats 1000000
theorem sub_fit {x y : Int} (h1 : -9223372036854775808 ≤ x - y) (h2 : x - y < 9223372036854775808) : evalPure (.bin .sub .int) [iV x, iV y] = some (iV (x - y)) := by
 simp only [evalPure, evalBin, evalInt, if_true]
 rw [wrap_id (by omega) (by omega)]
/-- An id by its word and its bit. -/
abbrev idV (q r : Nat) : Value := iV (((64 * q + r : Nat) : Int) + 1)
theorem id_sub {q r : Nat} (hq : q < 8) (hr : r < 64) : evalPure (.bin .sub .int) [idV q r, iV 1] = some (iV ((64 * q + r : Nat) : Int)) := by
 rw [sub_fit (by omega) (by omega)]
 congr 2; omega
theorem id_quo {q r : Nat} (hq : q < 8) (hr : r < 64) : evalPure (.bin .quo .int) [iV ((64 * q + r : Nat) : Int), iV 64] = some (iV (q : Int)) := by
 show some (Value.int .i64 (IntKind.i64.wrap (((64 * q + r) / 64 : Nat) : Int))) = _
 rw [wrap_id (by omega) (by omega), show (64 * q + r) / 64 = q by omega]
theorem id_rem {q r : Nat} (hr : r < 64) : evalPure (.bin .rem .int) [iV ((64 * q + r : Nat) : Int), iV 64] = some (iV (r : Int)) := by
 show some (Value.int .i64 (((64 * q + r) % 64 : Nat) : Int)) = _
 rw [show (64 * q + r) % 64 = r by omega]
theorem words_get {ws : List Nat} {q : Nat} (h : q < ws.length) : (words ws)[q]? = some [uV ws[q]] := by simp [words, h]
theorem words_set (ws : List Nat) (q w : Nat) : (words ws).set q [uV w] = words (ws.set q w) := by simp [words, List.map_set]
theorem c_bit {H : Heap} {r0 : Nat} {s : Value} {A : Own} {ws : List Nat} (hs : OSl Ty_uint64 1 s (words ws) A) (hl : ws.length = 8) {q r : Nat} (hq : q < 8) (hr : r < 64) {a : Addr} (ha : evalPure (.idx 1) [s, iV (q : Int)] = some (.pointer (some a))) :
  RetO PP F_ident_Ids_bit [.pointer (some ⟨r0, 0, none⟩), idV q r] H ((r0, .cells #[iV 500, s] Ty_ident_Ids (0, 0)) :: A) (.tuple #[.pointer (some a), uV (2 ^ r)]) := by
 refine run_ident_Ids_bit (vs := [.pointer (some ⟨r0, 0, none⟩), idV q r]) (by kernel_rfl) ⟨rfl, rfl, trivial⟩ ?_
 simp only [T_ident_Ids_bit]
 repeat (first | refine chkN_den ?_ | refine chkV_den ?_ | refine chkP_den rfl ?_)
 refine ⟨[s], rfl, ⟨hs.one, trivial⟩, fun _ => box_read1, ?_⟩
 repeat (first | refine chkN_den ?_ | refine chkV_den ?_ | refine chkP_den rfl ?_)
 refine pure_den _ (id_sub hq hr) ?_
 repeat (first | refine chkN_den ?_ | refine chkV_den ?_ | refine chkP_den rfl ?_)
 refine pure_den _ (id_quo hq hr) ?_
 repeat (first | refine chkN_den ?_ | refine chkV_den ?_ | refine chkP_den rfl ?_)
 refine pure_den _ ha ?_
 repeat (first | refine chkN_den ?_ | refine chkV_den ?_ | refine chkP_den rfl ?_)
 refine pure_den _ (id_sub hq hr) ?_
 repeat (first | refine chkN_den ?_ | refine chkV_den ?_ | refine chkP_den rfl ?_)
 refine pure_den _ (id_rem hr) ?_
 repeat (first | refine chkN_den ?_ | refine chkV_den ?_ | refine chkP_den rfl ?_)
 refine pure_den _ (shl_u hr) ?_
 repeat (first | refine chkN_den ?_ | refine chkV_den ?_ | refine chkP_den rfl ?_)
 exact ret_denO ⟨rfl, rfl⟩
theorem c_check {H : Heap} {r0 : Nat} {s : Value} {A : Own} {ws : List Nat} (hs : OSl Ty_uint64 1 s (words ws) A) (hl : ws.length = 8) {q r : Nat} (hq : q < 8) (hr : r < 64) (h5 : 64 * q + r < 500) {a : Addr} (ha : evalPure (.idx 1) [s, iV (q : Int)] = some (.pointer (some a))) :
  RetO PP F_ident_Ids_check [.pointer (some ⟨r0, 0, none⟩), idV q r] H ((r0, .cells #[iV 500, s] Ty_ident_Ids (0, 0)) :: A) (.tuple #[.pointer (some a), uV (2 ^ r), iV 0]) := by
 refine run_ident_Ids_check (vs := [.pointer (some ⟨r0, 0, none⟩), idV q r]) (by kernel_rfl) ⟨rfl, rfl, trivial⟩ ?_
 simp only [T_ident_Ids_check]
 repeat (first | refine chkN_den ?_ | refine chkV_den ?_ | refine chkP_den rfl ?_)
 refine call_retO (c_zero hs.one) rfl ⟨rfl, trivial⟩ fun H1 l1 => ?_
 repeat (first | refine chkN_den ?_ | refine chkV_den ?_ | refine chkP_den rfl ?_)
 refine br_den (fun hb => by cases hb) (fun _ => ?_)
 repeat (first | refine chkN_den ?_ | refine chkV_den ?_ | refine chkP_den rfl ?_)
 refine pure_den _ (lss_eq _ _) ?_
 repeat (first | refine chkN_den ?_ | refine chkV_den ?_ | refine chkP_den rfl ?_)
 refine ⟨[iV 500], rfl, ⟨rfl, trivial⟩, fun _ => box_read0, ?_⟩
 repeat (first | refine chkN_den ?_ | refine chkV_den ?_ | refine chkP_den rfl ?_)
 refine pure_den _ (gtr_eq _ _) ?_
 repeat (first | refine chkN_den ?_ | refine chkV_den ?_ | refine chkP_den rfl ?_)
 refine pure_den _ (pick_or _ _) ?_
 repeat (first | refine chkN_den ?_ | refine chkV_den ?_ | refine chkP_den rfl ?_)
 refine br_den (fun hb => ?_) (fun _ => ?_)
 ·simp at hb; omega
 ·repeat (first | refine chkN_den ?_ | refine chkV_den ?_ | refine chkP_den rfl ?_)
  refine call_retO (c_bit hs hl hq hr ha) rfl ⟨rfl, rfl, trivial⟩ fun H2 l2 => ?_
  repeat (first | refine chkN_den ?_ | refine chkV_den ?_ | refine chkP_den rfl ?_)
  exact ret_denO ⟨rfl, rfl⟩
theorem or_same {w r : Nat} (h : w.testBit r = true) : w ||| 2 ^ r = w := by
 refine Nat.eq_of_testBit_eq fun j => ?_
 rw [Nat.testBit_or, Nat.testBit_two_pow]
 by_cases e : r = j
 ·subst e; rw [h]; rfl
 ·rw [decide_eq_false e, Bool.or_false]
theorem and_bit {w r : Nat} : (w &&& 2 ^ r != 0) = w.testBit r := by
 have e : w &&& 2 ^ r = if w.testBit r then 2 ^ r else 0 := by
  refine Nat.eq_of_testBit_eq fun j => ?_
  rw [Nat.testBit_and, Nat.testBit_two_pow]
  by_cases e : r = j
  ·subst e; cases w.testBit r <;> simp
  ·rw [decide_eq_false e, Bool.and_false]; split
   ·rw [Nat.testBit_two_pow, decide_eq_false e]
   ·simp
 rw [e]
 have := Nat.two_pow_pos r
 cases w.testBit r <;> simp
/-- A word is claimed a bit of. -/
def claimW (ws : List Nat) (q r : Nat) : List Nat := ws.set q (ws.getD q 0 ||| 2 ^ r)
theorem c_Claim {H : Heap} {p : Value} {O : Own} {ws : List Nat} (h : OIds p ws O) (hl : ws.length = 8) (hw : ∀ w ∈ ws, w < 2 ^ 64) {q r : Nat} (hr : r < 64) (h5 : 64 * q + r < 500) :
  Triple PP F_ident_Ids_Claim [p, idV q r] H O fun v H' O' => (∃ e, v = iV e) ∧ OIds p (claimW ws q r) O' := by
 obtain ⟨r0, s, A, rfl, rfl, hs⟩ := h
 have hq : q < 8 := by omega
 have hql : q < ws.length := by omega
 have hwq := hw _ (List.getElem_mem hql)
 have hgd : ws.getD q 0 = ws[q] := by rw [List.getD_eq_getElem?_getD, List.getElem?_eq_getElem hql]; rfl
 obtain ⟨a, ha, hst⟩ := hs.store (O := (r0, .cells #[iV 500, s] Ty_ident_Ids (0, 0)) :: A) (O2 := [(r0, .cells #[iV 500, s] Ty_ident_Ids (0, 0))]) (by simpa using List.perm_append_comm (l₁ := [(r0, Obj.cells #[iV 500, s] Ty_ident_Ids (0, 0))]) (l₂ := A)) (k := .i64) (words_get hql)
 obtain ⟨a', ha', _, hrd, _⟩ := hs.idx (O := (r0, .cells #[iV 500, s] Ty_ident_Ids (0, 0)) :: A) (fun p hp => List.mem_cons_of_mem _ hp) H (k := .i64) (words_get hql)
 obtain rfl : a' = a := by rw [ha] at ha'; simpa using ha'.symm
 have hrd : ∀ H', Reads H' ((r0, .cells #[iV 500, s] Ty_ident_Ids (0, 0)) :: A) (.pointer (some a')) 1 [uV ws[q]] := fun H' => by
  obtain ⟨a2, h2, _, h3, _⟩ := hs.idx (O := (r0, .cells #[iV 500, s] Ty_ident_Ids (0, 0)) :: A) (fun p hp => List.mem_cons_of_mem _ hp) H' (k := .i64) (words_get hql)
  obtain rfl : a2 = a' := by rw [h2] at ha; simpa using ha
  exact h3
 refine run_ident_Ids_Claim (vs := [.pointer (some ⟨r0, 0, none⟩), idV q r]) (by kernel_rfl) ⟨rfl, rfl, trivial⟩ ?_
 simp only [T_ident_Ids_Claim]
 repeat (first | refine chkN_den ?_ | refine chkV_den ?_ | refine chkP_den rfl ?_)
 refine call_retO (c_check hs hl hq hr h5 ha) rfl ⟨rfl, rfl, rfl, trivial⟩ fun H1 l1 => ?_
 repeat (first | refine chkN_den ?_ | refine chkV_den ?_ | refine chkP_den rfl ?_)
 refine pure_den _ (neq_eq _ _) ?_
 repeat (first | refine chkN_den ?_ | refine chkV_den ?_ | refine chkP_den rfl ?_)
 refine br_den (fun hb => by cases hb) (fun _ => ?_)
 repeat (first | refine chkN_den ?_ | refine chkV_den ?_ | refine chkP_den rfl ?_)
 refine ⟨[uV ws[q]], rfl, ⟨rfl, trivial⟩, fun _ => hrd H1, ?_⟩
 repeat (first | refine chkN_den ?_ | refine chkV_den ?_ | refine chkP_den rfl ?_)
 have hp2 : 2 ^ r < 2 ^ 64 := Nat.pow_lt_pow_right (by omega) hr
 refine pure_den _ (and_u hwq hp2) ?_
 repeat (first | refine chkN_den ?_ | refine chkV_den ?_ | refine chkP_den rfl ?_)
 refine pure_den _ (neq_u _ 0) ?_
 repeat (first | refine chkN_den ?_ | refine chkV_den ?_ | refine chkP_den rfl ?_)
 refine br_den (fun hb => ?_) (fun _ => ?_)
 ·rw [and_bit] at hb
  refine ret_denO ⟨⟨11, rfl⟩, r0, s, A, rfl, rfl, ?_⟩
  rw [claimW, hgd, or_same hb, List.set_getElem_self]
  exact hs
 ·repeat (first | refine chkN_den ?_ | refine chkV_den ?_ | refine chkP_den rfl ?_)
  refine ⟨[uV ws[q]], rfl, ⟨rfl, trivial⟩, fun _ => hrd H1, ?_⟩
  repeat (first | refine chkN_den ?_ | refine chkV_den ?_ | refine chkP_den rfl ?_)
  refine pure_den _ (or_u hwq hp2) ?_
  repeat (first | refine chkN_den ?_ | refine chkV_den ?_ | refine chkP_den rfl ?_)
  obtain ⟨O1, hs1, hs2⟩ := hst 0 [uV (ws[q] ||| 2 ^ r)] (Nat.le_refl _) ⟨rfl, trivial⟩
  refine ⟨_, hs1, ?_⟩
  repeat (first | refine chkN_den ?_ | refine chkV_den ?_ | refine chkP_den rfl ?_)
  refine fun _ => ⟨_, _, Ghost.perm (List.perm_append_comm (l₁ := O1) (l₂ := [(r0, Obj.cells #[iV 500, s] Ty_ident_Ids (0, 0))])), ⟨0, rfl⟩, r0, s, O1, rfl, rfl, ?_⟩
  rw [claimW, hgd, ← words_set]
  exact hs2
theorem claimW_lt {ws : List Nat} {q r : Nat} (hr : r < 64) (hw : ∀ w ∈ ws, w < 2 ^ 64) : ∀ w ∈ claimW ws q r, w < 2 ^ 64 := by
 intro w h
 rcases List.mem_or_eq_of_mem_set h with h | rfl
 ·exact hw w h
 ·refine Nat.or_lt_two_pow ?_ (Nat.pow_lt_pow_right (by omega) hr)
  rw [List.getD_eq_getElem?_getD]
  cases e : ws[q]? with
  | none => simp
  | some x => exact hw x (List.mem_of_getElem? e)
end Go.Proofs.YtjaegdkkiefchaaGreatDoor
namespace Go.Proofs.YtjaegdkkiefchaaGreatDoor
open Go Go.Sx
set_option maxRecDepth 100000
set_option maxHeartbeats 1000000
/-- Words and the set that they are. -/
structure BitsOk (ws : List Nat) (inS : Nat → Bool) : Prop where
 len : ws.length = 8
 lt : ∀ w ∈ ws, w < 2 ^ 64
 bit : ∀ q r, q < 8 → r < 64 → (ws.getD q 0).testBit r = inS (64 * q + r)
theorem bits_new : BitsOk (List.replicate 8 0) fun _ => false where
 len := rfl
 lt := fun w h => by rw [List.eq_of_mem_replicate h]; omega
 bit := fun q r hq _ => by
  rw [List.getD_eq_getElem?_getD, List.getElem?_replicate, if_pos hq]; simp
theorem BitsOk.claim {ws : List Nat} {inS : Nat → Bool} (h : BitsOk ws inS) {q r : Nat} (hq : q < 8) (hr : r < 64) : BitsOk (claimW ws q r) fun m => inS m || m == 64 * q + r where
 len := by rw [claimW, List.length_set]; exact h.len
 lt := claimW_lt hr h.lt
 bit := fun q' r' hq' hr' => by
  have hl := h.len
  rw [claimW, List.getD_eq_getElem?_getD, List.getElem?_set]
  by_cases e : q = q'
  ·subst e
   rw [if_pos rfl, if_pos (by omega), Option.getD_some, Nat.testBit_or, Nat.testBit_two_pow, h.bit q r' hq hr']
   congr 1
   rw [Bool.eq_iff_iff]; simp; omega
  ·rw [if_neg e, ← List.getD_eq_getElem?_getD, h.bit q' r' hq' hr']
   have : (64 * q' + r' == 64 * q + r) = false := by simp; omega
   rw [this, Bool.or_false]
def TakeR (inS : Nat → Bool) (v : Value) : Prop :=
 (∃ m : Nat, m < 500 ∧ inS m = false ∧ (∀ j, j < m → inS j = true) ∧ v = .tuple #[iV ((m : Int) + 1), iV 0]) ∨ ((∀ m, m < 500 → inS m = true) ∧ v = .tuple #[iV 0, iV 7])
theorem mul_fit {x y : Int} (h1 : -9223372036854775808 ≤ x * y) (h2 : x * y < 9223372036854775808) : evalPure (.bin .mul .int) [iV x, iV y] = some (iV (x * y)) := by
 simp only [evalPure, evalBin, evalInt, if_true]
 rw [wrap_id (by omega) (by omega)]
theorem compl_bit {w j : Nat} (hj : j < 64) : (2 ^ 64 - 1 ^^^ w).testBit j = !w.testBit j := by
 rw [Nat.testBit_xor, Nat.testBit_two_pow_sub_one, decide_eq_true hj]; cases w.testBit j <;> rfl
theorem c_Take {H : Heap} (hgl : GlobOk glob0 H) {p : Value} {O : Own} {ws : List Nat} {inS : Nat → Bool} (h : OIds p ws O) (hb : BitsOk ws inS) :
  Triple PP F_ident_Ids_Take [p] H O fun v _ _ => TakeR inS v := by
 obtain ⟨r0, s, A, rfl, rfl, hs⟩ := h
 have hl := hb.len
 have hlen : evalPure .len [s] = some (iV (8 : Nat)) := by have := hs.len; rwa [words, List.length_map, hl] at this
 refine run_ident_Ids_Take (vs := [.pointer (some ⟨r0, 0, none⟩)]) (by kernel_rfl) ⟨rfl, trivial⟩ ?_
 simp only [T_ident_Ids_Take]
 refine call_retO (c_zero hs.one) rfl ⟨rfl, trivial⟩ fun H1 l1 => ?_
 repeat (first | refine chkN_den ?_ | refine chkV_den ?_ | refine chkP_den rfl ?_)
 refine br_den (fun hb => by cases hb) (fun _ => ?_)
 repeat (first | refine chkN_den ?_ | refine chkV_den ?_ | refine chkP_den rfl ?_)
 refine ⟨[s], rfl, ⟨hs.one, trivial⟩, fun _ => box_read1, ?_⟩
 repeat (first | refine chkN_den ?_ | refine chkV_den ?_ | refine chkP_den rfl ?_)
 refine pure_den _ hlen ?_
 repeat (first | refine chkN_den ?_ | refine chkV_den ?_ | refine chkP_den rfl ?_)
 refine count_den 8 (fun i H' O' => Heap.le H H' ∧ O' = (r0, .cells #[iV 500, s] Ty_ident_Ids (0, 0)) :: A ∧ ∀ m, m < 64 * i → m < 500 → inS m = true) ⟨l1, rfl, fun m h => absurd h (by omega)⟩ ?_
 rintro i H' O' hi - ⟨hle, rfl, hall⟩
 repeat (first | refine chkN_den ?_ | refine chkV_den ?_ | refine chkP_den rfl ?_)
 refine pure_den _ (lss_eq _ _) ?_
 repeat (first | refine chkN_den ?_ | refine chkV_den ?_ | refine chkP_den rfl ?_)
 refine br_den (fun hlt => ?_) (fun hlt => ?_)
 ·have hi8 : i < 8 := by simp at hlt; omega
  have hil : i < ws.length := by omega
  have hwi := hb.lt _ (List.getElem_mem hil)
  have hgd : ws.getD i 0 = ws[i] := by rw [List.getD_eq_getElem?_getD, List.getElem?_eq_getElem hil]; rfl
  have hbit := hb.bit i
  rw [hgd] at hbit
  generalize hwd : ws[i] = w at hwi hbit hgd
  have hget : (words ws)[i]? = some [uV w] := by rw [words_get hil, hwd]
  obtain ⟨a, ha, _⟩ := hs.idx (O := (r0, .cells #[iV 500, s] Ty_ident_Ids (0, 0)) :: A) (fun p hp => List.mem_cons_of_mem _ hp) H' (k := .i64) hget
  have hrd : ∀ H', Reads H' ((r0, .cells #[iV 500, s] Ty_ident_Ids (0, 0)) :: A) (.pointer (some a)) 1 [uV w] := fun H' => by
   obtain ⟨a2, h2, _, h3, _⟩ := hs.idx (O := (r0, .cells #[iV 500, s] Ty_ident_Ids (0, 0)) :: A) (fun p hp => List.mem_cons_of_mem _ hp) H' (k := .i64) hget
   obtain rfl : a2 = a := by rw [h2] at ha; simpa using ha
   exact h3
  refine pure_den _ ha ?_
  repeat (first | refine chkN_den ?_ | refine chkV_den ?_ | refine chkP_den rfl ?_)
  refine load_denR (hrd H') rfl ⟨rfl, trivial⟩ ?_
  repeat (first | refine chkN_den ?_ | refine chkV_den ?_ | refine chkP_den rfl ?_)
  refine pure_den _ (mul_fit (by omega) (by omega)) ?_
  repeat (first | refine chkN_den ?_ | refine chkV_den ?_ | refine chkP_den rfl ?_)
  refine pure_den _ (compl_u hwi) ?_
  repeat (first | refine chkN_den ?_ | refine chkV_den ?_ | refine chkP_den rfl ?_)
  have hcl : 2 ^ 64 - 1 ^^^ w < 2 ^ 64 := Nat.xor_lt_two_pow (by omega) hwi
  have hcb := fun j (hj : j < 64) => compl_bit (w := w) hj
  generalize hcd : 2 ^ 64 - 1 ^^^ w = c at hcl hcb
  rcases Nat.eq_zero_or_pos c with h0 | h0
  ·subst h0
   have hfull : ∀ m, m < 64 * (i + 1) → m < 500 → inS m = true := fun m hm h5 => by
    rcases Nat.lt_or_ge m (64 * i) with h | h
    ·exact hall m h h5
    ·have := hcb (m - 64 * i) (by omega)
     rw [Nat.zero_testBit] at this
     have h2 := hbit (m - 64 * i) hi8 (by omega)
     rw [show 64 * i + (m - 64 * i) = m by omega] at h2
     rw [← h2]; simpa using this.symm
   refine call_retO (c_tz0 _) rfl ⟨rfl, trivial⟩ fun H2 l2 => ?_
   repeat (first | refine chkN_den ?_ | refine chkV_den ?_ | refine chkP_den rfl ?_)
   refine pure_den _ (add_fit (by omega) (by omega)) ?_
   repeat (first | refine chkN_den ?_ | refine chkV_den ?_ | refine chkP_den rfl ?_)
   refine pure_den _ (add_fit (by omega) (by omega)) ?_
   repeat (first | refine chkN_den ?_ | refine chkV_den ?_ | refine chkP_den rfl ?_)
   refine pure_den _ (compl_u hwi) ?_
   rw [hcd]
   repeat (first | refine chkN_den ?_ | refine chkV_den ?_ | refine chkP_den rfl ?_)
   refine pure_den _ (neq_u 0 0) ?_
   repeat (first | refine chkN_den ?_ | refine chkV_den ?_ | refine chkP_den rfl ?_)
   refine ⟨[iV 500], rfl, ⟨rfl, trivial⟩, fun _ => box_read0, ?_⟩
   repeat (first | refine chkN_den ?_ | refine chkV_den ?_ | refine chkP_den rfl ?_)
   refine pure_den _ (leq_eq _ _) ?_
   repeat (first | refine chkN_den ?_ | refine chkV_den ?_ | refine chkP_den rfl ?_)
   refine pure_den _ (pick_and _ _) ?_
   repeat (first | refine chkN_den ?_ | refine chkV_den ?_ | refine chkP_den rfl ?_)
   refine br_den (fun hb => by simp at hb) (fun _ => ?_)
   repeat (first | refine chkN_den ?_ | refine chkV_den ?_ | refine chkP_den rfl ?_)
   exact pure_den _ (add_one (by omega)) (count_cont (by simp [Eqs]) hi8 ⟨Heap.le_trans hle l2, rfl, hfull⟩)
  ·obtain ⟨k, m', hk, e⟩ := low_bit h0 hcl
   have hlow : ∀ m, m < 64 * i + k → m < 500 → inS m = true := fun m hm h5 => by
    rcases Nat.lt_or_ge m (64 * i) with h | h
    ·exact hall m h h5
    ·have := hcb (m - 64 * i) (by omega)
     rw [low_off e (by omega)] at this
     have h2 := hbit (m - 64 * i) hi8 (by omega)
     rw [show 64 * i + (m - 64 * i) = m by omega] at h2
     rw [← h2]; simpa using this.symm
   have hkf : inS (64 * i + k) = false := by
    have := hcb k hk
    rw [low_on e] at this
    rw [← hbit k hi8 hk]; simpa using this.symm
   refine call_retO (c_tz (hgl.le hle) _ hcl hk e) rfl ⟨rfl, trivial⟩ fun H2 l2 => ?_
   repeat (first | refine chkN_den ?_ | refine chkV_den ?_ | refine chkP_den rfl ?_)
   refine pure_den _ (add_fit (by omega) (by omega)) ?_
   repeat (first | refine chkN_den ?_ | refine chkV_den ?_ | refine chkP_den rfl ?_)
   refine pure_den _ (add_fit (by omega) (by omega)) ?_
   repeat (first | refine chkN_den ?_ | refine chkV_den ?_ | refine chkP_den rfl ?_)
   refine pure_den _ (compl_u hwi) ?_
   rw [hcd]
   repeat (first | refine chkN_den ?_ | refine chkV_den ?_ | refine chkP_den rfl ?_)
   refine pure_den _ (neq_u c 0) ?_
   repeat (first | refine chkN_den ?_ | refine chkV_den ?_ | refine chkP_den rfl ?_)
   refine ⟨[iV 500], rfl, ⟨rfl, trivial⟩, fun _ => box_read0, ?_⟩
   repeat (first | refine chkN_den ?_ | refine chkV_den ?_ | refine chkP_den rfl ?_)
   refine pure_den _ (leq_eq _ _) ?_
   repeat (first | refine chkN_den ?_ | refine chkV_den ?_ | refine chkP_den rfl ?_)
   refine pure_den _ (pick_and _ _) ?_
   repeat (first | refine chkN_den ?_ | refine chkV_den ?_ | refine chkP_den rfl ?_)
   refine br_den (fun hy => ?_) (fun hn => ?_)
   ·have h5 : 64 * i + k < 500 := by simp at hy; omega
    repeat (first | refine chkN_den ?_ | refine chkV_den ?_ | refine chkP_den rfl ?_)
    refine ⟨[s], rfl, ⟨hs.one, trivial⟩, fun _ => box_read1, ?_⟩
    repeat (first | refine chkN_den ?_ | refine chkV_den ?_ | refine chkP_den rfl ?_)
    refine pure_den _ ha ?_
    repeat (first | refine chkN_den ?_ | refine chkV_den ?_ | refine chkP_den rfl ?_)
    refine load_denR (hrd H2) rfl ⟨rfl, trivial⟩ ?_
    repeat (first | refine chkN_den ?_ | refine chkV_den ?_ | refine chkP_den rfl ?_)
    have hw1 : w + 1 < 2 ^ 64 := by
     refine Nat.lt_of_le_of_ne (by omega) fun ew => ?_
     have hwm : w = 2 ^ 64 - 1 := by omega
     rw [hwm, Nat.xor_self] at hcd
     omega
    refine pure_den _ (add_u (b := 1) hw1) ?_
    repeat (first | refine chkN_den ?_ | refine chkV_den ?_ | refine chkP_den rfl ?_)
    refine pure_den _ (or_u hwi hw1) ?_
    repeat (first | refine chkN_den ?_ | refine chkV_den ?_ | refine chkP_den rfl ?_)
    refine pure_den _ ha ?_
    repeat (first | refine chkN_den ?_ | refine chkV_den ?_ | refine chkP_den rfl ?_)
    obtain ⟨a3, ha3, hst⟩ := hs.store (O := (r0, .cells #[iV 500, s] Ty_ident_Ids (0, 0)) :: A) (O2 := [(r0, .cells #[iV 500, s] Ty_ident_Ids (0, 0))]) (by simpa using List.perm_append_comm (l₁ := [(r0, Obj.cells #[iV 500, s] Ty_ident_Ids (0, 0))]) (l₂ := A)) (k := .i64) hget
    obtain rfl : a3 = a := by rw [ha3] at ha; simpa using ha
    obtain ⟨O1, hs1, _⟩ := hst 0 [uV (w ||| (w + 1))] (Nat.le_refl _) ⟨rfl, trivial⟩
    refine ⟨_, hs1, ?_⟩
    repeat (first | refine chkN_den ?_ | refine chkV_den ?_ | refine chkP_den rfl ?_)
    refine ret_denO (.inl ⟨64 * i + k, h5, hkf, fun j hj => hlow j hj (by omega), ?_⟩)
    show Value.tuple #[iV _, iV 0] = _
    congr 3
   ·have hne : (c != 0) = true := by simp; omega
    rw [hne, Bool.true_and] at hn
    have h5 : 500 ≤ 64 * i + k := by simp at hn; omega
    repeat (first | refine chkN_den ?_ | refine chkV_den ?_ | refine chkP_den rfl ?_)
    refine pure_den _ (add_one (by omega)) (count_cont (by simp [Eqs]) hi8 ⟨Heap.le_trans hle l2, rfl, fun m _ hm5 => hlow m (by omega) hm5⟩)
 ·have hi8 : i = 8 := by simp at hlt; omega
  subst hi8
  repeat (first | refine chkN_den ?_ | refine chkV_den ?_ | refine chkP_den rfl ?_)
  exact ret_denO (.inr ⟨fun m hm => hall m (by omega) hm, rfl⟩)
end Go.Proofs.YtjaegdkkiefchaaGreatDoor
namespace Go.Sx
open Go
set_option maxRecDepth 100000
set_option maxHeartbeats 1000000
/-- Elements are copied into an own block. -/
theorem call_copy {P : Program} {t t2 ty e : TypeId} {i : TypeInfo} (ht : P.underlying t = some (.slice e)) (hi : P.info? e = some i) {H : Heap} {O O2 : Own} {r off dLen dCap m k : Nat} {cs src : List Value} {x : Value} {K : List Value → List (List Value) → Heap → Own → Prop}
  (hO : O.Perm ([(r, .cells cs.toArray e (0, 0))] ++ O2)) (hl : ∀ w' : World, (Builtin.lenOf x).run P w' = .ok m w') (hk : k = min m dLen)
  (hcells : ∀ w F, Models w H ([(r, .cells cs.toArray e (0, 0))] ++ F) → (Builtin.firstCells i.size k x).run P w = .ok src.toArray w) (hfit : off + src.length ≤ cs.length) (h1 : ∀ v ∈ src, v.oneCell' = true)
  (hK : K [iV (k : Int)] [] H ([(r, .cells (cs.take off ++ src ++ cs.drop (off + src.length)).toArray e (0, 0))] ++ O2)) :
  CallD (fun H1 O1 R => OpTriple P ((PrimOp.bi .copy #[t, t2] ty).sem [.slice (some ⟨r, off, none⟩) dLen dCap, x]) H1 O1 R) false [] [] .one K H O := by
 refine call_row (r := r) (cs := cs) (e := e) (O2 := O2) (cs' := cs.take off ++ src ++ cs.drop (off + src.length)) hO (v := iV (k : Int)) (fun w F hm => ?_) rfl ⟨rfl, trivial⟩ hK
 have hrow := (hm.own (r, .cells cs.toArray e (0, 0)) (by simp)).1
 have := run_copy_in (P := P) (t := t) (t2 := t2) (ty := ty) ht hi (w := w) (off := off) (dLen := dLen) (dCap := dCap) hrow hl hk (hcells w F hm) hfit h1
 simp only [PrimOp.sem, builtin]
 rw [Sem.run_bind, this]
 rfl
/-- The first cells of a part of the own block. -/
theorem first_own {P : Program} {w : World} {H : Heap} {r : Nat} {cs : List Value} {e : TypeId} {F : Own} (hm : Models w H ([(r, .cells cs.toArray e (0, 0))] ++ F)) {size k off n cap : Nat} (hfit : off + k * size ≤ cs.length) :
  (Builtin.firstCells size k (.slice (some ⟨r, off, none⟩) n cap)).run P w = .ok ((cs.drop off).take (k * size)).toArray w := by
 refine run_firstCells_some w size k ⟨r, off, none⟩ n cap _ (by rw [List.length_take, List.length_drop]; omega) fun j u hj => ?_
 rw [add_none]
 rw [List.getElem?_take] at hj
 split at hj
 ·rw [List.getElem?_drop] at hj
  exact own_cell hm hj
 ·cases hj
/-- The first cells of a frozen block. -/
theorem first_frz {P : Program} {w : World} {H : Heap} {O : Own} (hm : Models w H O) {r : Nat} {cs : List Value} {e : TypeId} (hr : H r = some (.cells cs.toArray e (0, 0))) {size k n cap : Nat} (hfit : k * size ≤ cs.length) :
  (Builtin.firstCells size k (.slice (some ⟨r, 0, none⟩) n cap)).run P w = .ok (cs.take (k * size)).toArray w := by
 refine run_firstCells_some w size k ⟨r, 0, none⟩ n cap _ (by rw [List.length_take]; omega) fun j u hj => ?_
 rw [add_none, Nat.zero_add]
 rw [List.getElem?_take] at hj
 split at hj
 ·have := hm.pers r _ hr
  simp [World.cell?, this, hj]
 ·cases hj
theorem intr_at {P : Program} {f : FuncId} {args : List Value} {fn : Func} {e : Array Value → Sem Value} {v : Value} (hf : P.funcs[f]? = some fn) (hn : (fn.name == "runtime.NumGoroutine") = false) (hb : fn.body.isNone = true)
  (h1 : Extern.findNext fn = none) (h2 : Extern.find fn = some e) {w : World} (hr : (e args.toArray).run P w = .ok v w) : ((PrimOp.intr f).sem args).run P w = .ok (.value v) w := by
 simp only [PrimOp.sem, callFunc, Sem.run_bind, run_program, Result.andThen_ok, hf, hn, hb, h1, h2, if_true, Bool.false_eq_true, if_false]
 simp [hr]
/-- Two blocks don't overlap. -/
theorem call_apart {P : Program} {f : FuncId} {fn : Func} {tS tR e : TypeId} {size : Nat} (hf : P.funcs[f]? = some fn) (hn : (fn.name == "runtime.NumGoroutine") = false) (hb : fn.body.isNone = true)
  (h1 : Extern.findNext fn = none) (h2 : Extern.find fn = some (Extern.SlicesOverlaps.overlaps #[tS, tS] #[tR])) (ht : P.underlying tS = some (.slice e)) (hsz : szOf P e = some size)
  {H : Heap} {O O2 : Own} {r rb off la ca lb cb : Nat} {cs bs : List Value} {K : List Value → List (List Value) → Heap → Own → Prop} (hO : O.Perm ([(r, .cells cs.toArray e (0, 0))] ++ O2)) (hrb : H rb = some (.cells bs.toArray e (0, 0))) (hcs : cs.length ≠ 0)
  (hK : K [.bool false] [] H ([(r, .cells cs.toArray e (0, 0))] ++ O2)) :
  CallD (fun H1 O1 R => OpTriple P ((PrimOp.intr f).sem [.slice (some ⟨rb, 0, none⟩) la ca, .slice (some ⟨r, off, none⟩) lb cb]) H1 O1 R) false [] [] .one K H O := by
 refine call_row (r := r) (cs := cs) (e := e) (O2 := O2) (cs' := cs) hO (v := .bool false) (fun w F hm => ?_) rfl ⟨rfl, trivial⟩ hK
 obtain ⟨hrow, hno⟩ := hm.own (r, .cells cs.toArray e (0, 0)) (by simp)
 have hw := hm.pers rb _ hrb
 have hne : rb ≠ r := by rintro rfl; simp only [] at hno; rw [hno] at hrb; cases hrb
 rw [setRow_self w r cs.toArray e (0, 0) hrow]
 refine intr_at hf hn hb h1 h2 ?_
 have := Go.Lib.run_overlaps_apart (P := P) w tS tR e ht size (fun w => run_sizeOf' hsz w) ⟨rb, 0, none⟩ ⟨r, off, none⟩ la ca lb cb hne e e bs.length cs.length
 refine this ?_ ?_ hcs ?_ ?_
 ·simp [World.shape?, hw]
 ·simp only [] at hrow; simp [World.shape?, hrow]
 ·simp [World.frozen?, hw]
 ·simp [World.frozen?, hw]
end Go.Sx
namespace Go.Sx
open Go
set_option maxRecDepth 100000
set_option maxHeartbeats 1000000
theorem call_row2 {P : Program} {op : PrimOp} {args : List Value} {H : Heap} {O O2 Y : Own} {r : Nat} {cs cs' : List Value} {e : TypeId} {v : Value} {shp : Shp} {K : List Value → List (List Value) → Heap → Own → Prop} {vs : List Value}
  (hO : O.Perm ([(r, .cells cs.toArray e (0, 0))] ++ (Y ++ O2))) (hrun : ∀ w F, Models w H ([(r, .cells cs.toArray e (0, 0))] ++ (Y ++ F)) → (op.sem args).run P w = .ok (.value v) (w.setRow r cs'.toArray)) (ho : shp.open v = some vs) (h1 : Ones vs)
  (hk : K vs [] H ([(r, .cells cs'.toArray e (0, 0))] ++ (Y ++ O2))) : CallD (fun H1 O1 R => OpTriple P (op.sem args) H1 O1 R) false [] [] shp K H O := by
 intro _
 refine ⟨H, [(r, .cells cs.toArray e (0, 0))] ++ Y, O2, fun v' H' O' => v' = v ∧ H' = H ∧ O' = [(r, .cells cs'.toArray e (0, 0))] ++ Y, Ghost.perm (by simpa using hO), fun w F hm => ⟨v, w.setRow r cs'.toArray, H, _, hrun w F (by simpa using hm), ⟨rfl, rfl, rfl⟩, Heap.le_refl H, ?_⟩, ?_⟩
 ·have := models_row (vs := cs) (vs' := cs') (O := Y ++ F) (by simpa using hm)
  simpa using this
 ·rintro v' H' O' ⟨rfl, rfl, rfl⟩ _
  exact ⟨vs, [], _, ho, h1, trivial, rfl, by simpa using hk⟩
theorem call_copy2 {P : Program} {t t2 ty e : TypeId} {i : TypeInfo} (ht : P.underlying t = some (.slice e)) (hi : P.info? e = some i) {H : Heap} {O O2 Y : Own} {r off dLen dCap m k : Nat} {cs src : List Value} {x : Value} {K : List Value → List (List Value) → Heap → Own → Prop}
  (hO : O.Perm ([(r, .cells cs.toArray e (0, 0))] ++ (Y ++ O2))) (hl : ∀ w' : World, (Builtin.lenOf x).run P w' = .ok m w') (hk : k = min m dLen)
  (hcells : ∀ w F, Models w H ([(r, .cells cs.toArray e (0, 0))] ++ (Y ++ F)) → (Builtin.firstCells i.size k x).run P w = .ok src.toArray w) (hfit : off + src.length ≤ cs.length) (h1 : ∀ v ∈ src, v.oneCell' = true)
  (hK : K [iV (k : Int)] [] H ([(r, .cells (cs.take off ++ src ++ cs.drop (off + src.length)).toArray e (0, 0))] ++ (Y ++ O2))) :
  CallD (fun H1 O1 R => OpTriple P ((PrimOp.bi .copy #[t, t2] ty).sem [.slice (some ⟨r, off, none⟩) dLen dCap, x]) H1 O1 R) false [] [] .one K H O := by
 refine call_row2 (r := r) (cs := cs) (e := e) (O2 := O2) (Y := Y) (cs' := cs.take off ++ src ++ cs.drop (off + src.length)) hO (v := iV (k : Int)) (fun w F hm => ?_) rfl ⟨rfl, trivial⟩ hK
 have hrow := (hm.own (r, .cells cs.toArray e (0, 0)) (by simp)).1
 have := run_copy_in (P := P) (t := t) (t2 := t2) (ty := ty) ht hi (w := w) (off := off) (dLen := dLen) (dCap := dCap) hrow hl hk (hcells w F hm) hfit h1
 simp only [PrimOp.sem, builtin]
 rw [Sem.run_bind, this]
 rfl
/-- append(s, make([]T, m)...) where there is no room. -/
theorem call_grow {P : Program} {t tn ty e : TypeId} {i : TypeInfo} {z : Value} {kn : IntKind} (ht : P.underlying t = some (.slice e)) (htn : P.underlying tn = some (.int kn)) (hi : P.info? e = some i) (hz : i.zero = some z) (hzs : z.cells.size = i.size) (hz1 : ∀ u ∈ z.cells.toList, u.oneCell' = true) (hs0 : 0 < i.size) (hby : i.bytes ≤ 1000)
  {H : Heap} {O O2 : Own} {r n cap m : Nat} {cs : List Value} {K : List Value → List (List Value) → Heap → Own → Prop} (hO : O.Perm ([(r, .cells cs.toArray e (0, 0))] ++ O2)) (hfit : n * i.size ≤ cs.length) (h0 : 0 < m) (hg : cap < n + m) (hb : n + m ≤ 2000000)
  (hK : ∀ r2 c2 zs, zs.length = (c2 - n) * i.size → n + m ≤ c2 → c2 < 2 ^ 63 → (∀ u ∈ zs, Value.oneCell' u = true) → K [.slice (some ⟨r2, 0, none⟩) (n + m) c2] [] H ([(r2, .cells (cs.take (n * i.size) ++ zs).toArray e (0, 0))] ++ ([(r, .cells cs.toArray e (0, 0))] ++ O2))) :
  CallD (fun H1 O1 R => OpTriple P ((PrimOp.bi .append #[t, tn] ty).sem [.slice (some ⟨r, 0, none⟩) n cap, iV (m : Int)]) H1 O1 R) false [] [] .one K H O := by
 intro _
 refine ⟨H, [(r, .cells cs.toArray e (0, 0))], O2, fun v' H' O' => H' = H ∧ ∃ r2 c2 zs, v' = .slice (some ⟨r2, 0, none⟩) (n + m) c2 ∧ zs.length = (c2 - n) * i.size ∧ n + m ≤ c2 ∧ c2 < 2 ^ 63 ∧ (∀ u ∈ zs, Value.oneCell' u = true) ∧ O' = [(r2, .cells (cs.take (n * i.size) ++ zs).toArray e (0, 0))] ++ [(r, .cells cs.toArray e (0, 0))], Ghost.perm hO, fun w F hm => ?_, ?_⟩
 ·have hm' : Models w.drew H ([(r, .cells cs.toArray e (0, 0))] ++ F) := Models.same (w := w) (by simpa using hm) rfl rfl
  have hold : (Builtin.firstCells i.size n (.slice (some ⟨r, 0, none⟩) n cap)).run P w.drew = .ok (cs.take (n * i.size)).toArray w.drew := by
   have := first_own (P := P) hm' (size := i.size) (k := n) (off := 0) (n := n) (cap := cap) (by omega)
   rwa [List.drop_zero] at this
  have hns : Builtin.nextslicecap (n + m) cap * i.bytes ≤ 281474976710656 := by
   have h1 := nextslicecap_le hg
   have h2 : Builtin.nextslicecap (n + m) cap * i.bytes ≤ (2 * (n + m)) * 1000 := Nat.mul_le_mul h1 hby
   omega
  have hkb : m * i.bytes ≤ 281474976710656 := by
   have h2 : m * i.bytes ≤ 2000000 * 1000 := Nat.mul_le_mul (by omega) hby
   omega
  have hrun := Go.Lib.run_append_grow_zeros (P := P) w t tn ty e i z .i64 kn ht htn hi hz (some ⟨r, 0, none⟩) n cap (cs.take (n * i.size)) hold m h0 hs0 hg (by omega) hkb hns
  generalize hc2 : grownCap w (n + m) cap e = c2 at hrun
  have hge : n + m ≤ c2 := by rw [← hc2]; exact grownCap_ge _ _ _ _
  have hle : c2 ≤ maxLen := by rw [← hc2]; exact grownCap_le_maxLen _ _ _ _ (by simp only [maxLen]; omega)
  have hp := hm'.push (.cells ((cs.take (n * i.size)).toArray ++ Builtin.zeroCells z.cells m ++ Builtin.zeroCells z.cells (c2 - (n + m))) e (0, 0))
  have hzl : ((Builtin.zeroCells z.cells m).toList ++ (Builtin.zeroCells z.cells (c2 - (n + m))).toList).length = (c2 - n) * i.size := by
   rw [List.length_append, Array.length_toList, Array.length_toList, size_zeroCells, size_zeroCells, hzs, ← Nat.add_mul]
   congr 1; omega
  have hcells : (cs.take (n * i.size)).toArray ++ Builtin.zeroCells z.cells m ++ Builtin.zeroCells z.cells (c2 - (n + m)) = (cs.take (n * i.size) ++ ((Builtin.zeroCells z.cells m).toList ++ (Builtin.zeroCells z.cells (c2 - (n + m))).toList)).toArray := by
   apply Array.ext'
   simp
  rw [hcells] at hrun hp
  refine ⟨_, w.drew.alloc (.cells (cs.take (n * i.size) ++ ((Builtin.zeroCells z.cells m).toList ++ (Builtin.zeroCells z.cells (c2 - (n + m))).toList)).toArray e (0, 0)), H, _, ?_, ⟨rfl, w.heap.size, c2, _, rfl, hzl, hge, by simp only [maxLen] at hle; omega, ?_, rfl⟩, Heap.le_refl H, ?_⟩
  ·simp only [PrimOp.sem, builtin]
   rw [Sem.run_bind, hrun]
   rfl
  ·intro u hu
   rcases List.mem_append.1 hu with hu | hu
   ·exact zero_ones hz1 u hu
   ·exact zero_ones hz1 u hu
  ·exact hp
 ·rintro v' H' O' ⟨rfl, r2, c2, zs, rfl, hl, h1, h2, h3, rfl⟩ _
  exact ⟨[.slice (some ⟨r2, 0, none⟩) (n + m) c2], [], _, rfl, ⟨rfl, trivial⟩, trivial, rfl, by simpa using hK r2 c2 zs hl h1 h2 h3⟩
end Go.Sx
namespace Go.Proofs.YtjaegdkkiefchaaGreatDoor
open Go Go.Sx
set_option maxRecDepth 100000
set_option maxHeartbeats 1000000
/-- The cells after an object was put between. -/
theorem shift_cells {size n k cap : Nat} {cs row src : List Value} {rows : List (List Value)} (hn : rows.length = n) (hk : k ≤ n) (hl : ∀ row ∈ rows, row.length = size) (ht : cs.take (n * size) = rows.flatten) (hr : row.length = size) (hcl : cs.length = cap * size) (hcap : n + 1 ≤ cap)
  (hsrc : src = (cs.drop (k * size)).take ((n - k) * size)) :
  let cs1 := cs.take ((k + 1) * size) ++ src ++ cs.drop ((k + 1) * size + src.length)
  let cs2 := cs1.take (k * size) ++ row ++ cs1.drop (k * size + row.length)
  cs1.length = cap * size ∧ cs2.length = cap * size ∧ cs2.take ((n + 1) * size) = (rows.take k ++ [row] ++ rows.drop k).flatten := by
 subst hn
 obtain ⟨a1, a2⟩ := rows_flat hl ht hk
 rw [← hsrc] at a2
 have e1 : (k + 1) * size = k * size + size := by rw [Nat.add_mul, Nat.one_mul]
 have e2 : (rows.length + 1) * size = rows.length * size + size := by rw [Nat.add_mul, Nat.one_mul]
 have e3 : (rows.length - k) * size = rows.length * size - k * size := Nat.sub_mul _ _ _
 have e4 : k * size ≤ rows.length * size := Nat.mul_le_mul_right _ hk
 have e5 : (rows.length + 1) * size ≤ cap * size := Nat.mul_le_mul_right _ hcap
 have hsl : src.length = rows.length * size - k * size := by rw [hsrc, List.length_take, List.length_drop]; omega
 intro cs1 cs2
 have h1 : cs1.length = cap * size := by
  show (cs.take ((k + 1) * size) ++ src ++ cs.drop ((k + 1) * size + src.length)).length = _
  rw [List.length_append, List.length_append, List.length_take, List.length_drop]; omega
 have hd : cs1.drop (k * size + row.length) = src ++ cs.drop ((k + 1) * size + src.length) := by
  show (cs.take ((k + 1) * size) ++ src ++ cs.drop ((k + 1) * size + src.length)).drop _ = _
  rw [List.append_assoc, List.drop_append_of_le_length (by rw [List.length_take]; omega), List.drop_eq_nil_of_le (by rw [List.length_take]; omega), List.nil_append]
 have htk : cs1.take (k * size) = (rows.take k).flatten := by
  show (cs.take ((k + 1) * size) ++ src ++ cs.drop ((k + 1) * size + src.length)).take _ = _
  rw [List.append_assoc, List.take_append_of_le_length (by rw [List.length_take]; omega), List.take_take, Nat.min_eq_left (by omega), a1]
 have hkl : (rows.take k).flatten.length = k * size := by rw [a1, List.length_take]; omega
 have h2 : cs2 = (rows.take k ++ [row] ++ rows.drop k).flatten ++ cs.drop ((k + 1) * size + src.length) := by
  show cs1.take (k * size) ++ row ++ cs1.drop (k * size + row.length) = _
  rw [hd, htk, List.flatten_append, List.flatten_append, ← a2, List.flatten_cons, List.flatten_nil, List.append_nil, List.append_assoc, List.append_assoc, List.append_assoc]
 have h3 : (rows.take k ++ [row] ++ rows.drop k).flatten.length = (rows.length + 1) * size := by
  rw [List.flatten_append, List.flatten_append, List.length_append, List.length_append, hkl, List.flatten_cons, List.flatten_nil, List.append_nil, a2, hr, hsl]; omega
 refine ⟨h1, ?_, ?_⟩
 ·rw [h2, List.length_append, h3, List.length_drop]; omega
 ·rw [h2, List.take_append_of_le_length (by omega), ← h3, List.take_length]
theorem slc_lo {r n cap k : Nat} (hk : k ≤ n) (hnc : n ≤ cap) (hck : k < cap) : evalPure (.slc 12 true false false) [.slice (some ⟨r, 0, none⟩) n cap, iV (k : Int)] = some (.slice (some ⟨r, k * 12, none⟩) (n - k) (cap - k)) := by
 have b3 : slcBounds n cap (some (iV (k : Int))) none none = some (k, n, cap) := by
  simp [slcBounds, boundOr, boundHi, boundI, asI, hk]
 simp only [evalPure, takeArgs, evalSlc, b3, Option.map_some]
 rw [if_neg (by omega)]
 show some (Value.slice (some ((⟨r, 0, none⟩ : Addr).add (k * 12))) (n - k) (cap - k)) = _
 rw [add_none, Nat.zero_add]
theorem slc_hi {r n cap k : Nat} (hk : k ≤ cap) : evalPure (.slc 12 false true false) [.slice (some ⟨r, 0, none⟩) n cap, iV (k : Int)] = some (.slice (some ⟨r, 0, none⟩) k cap) := by
 have b2 : slcBounds n cap none (some (iV (k : Int))) none = some (0, k, cap) := by
  simp [slcBounds, boundOr, boundHi, boundI, asI, hk]
 simp only [evalPure, takeArgs, evalSlc, b2, Option.map_some]
 simp [Addr.add]
theorem c_Insert {H : Heap} {A : Own} {v : Value} {rows : List (List Value)} (h : OSl Ty_api_Object 12 v rows A) {k : Nat} (hk : k ≤ rows.length) (hlen : rows.length ≤ 1000000) {rb : Nat} {row : List Value} (hrl : row.length = 12) (hro : Ones row) (hrb : H rb = some (.cells row.toArray Ty_api_Object (0, 0))) :
  Triple PP F_slices_Insert_api_Object_api_Object [v, iV (k : Int), .slice (some ⟨rb, 0, none⟩) 1 1] H A fun v' _ O' => ∃ A' X, O' = A' ++ X ∧ OSl Ty_api_Object 12 v' (rows.take k ++ [row] ++ rows.drop k) A' := by
 refine run_slices_Insert_api_Object_api_Object (vs := [v, iV (k : Int), .slice (some ⟨rb, 0, none⟩) 1 1]) (by kernel_rfl) ⟨h.one, rfl, rfl, trivial⟩ ?_
 simp only [T_slices_Insert_api_Object_api_Object]
 obtain ⟨hu, inf, hinf, hsz⟩ := appOk_info (P := PP) (t := 22) (e := Ty_api_Object) (size := 12) (bytes := 80) (by kernel_rfl)
 have hvl := h.len
 by_cases hkn : k = rows.length
 ·
  have hsl : ∃ u, evalPure (.slc 12 true false false) [v, iV (k : Int)] = some u ∧ u.oneCell' = true := by
   rcases h with ⟨⟨a, rfl⟩, rfl, rfl⟩ | ⟨r, cs, cap, rfl, rfl, hcl, hlc, hcap, hl, ho, ht⟩
   ·subst hkn; exact ⟨_, rfl, by cases a <;> rfl⟩
   ·have b3 : slcBounds rows.length cap (some (iV (k : Int))) none none = some (k, rows.length, cap) := by
     simp [slcBounds, boundOr, boundHi, boundI, asI, hk]
    simp only [evalPure, takeArgs, evalSlc, b3, Option.map_some]
    exact ⟨_, rfl, by split <;> rfl⟩
  obtain ⟨u, hu1, hu2⟩ := hsl
  refine pure_den _ hu1 ?_
  repeat (first | refine chkN_den ?_ | refine chkV_den ?_ | refine chkP_den rfl ?_)
  refine pure_den (iV 1) rfl ?_
  repeat (first | refine chkN_den ?_ | refine chkV_den ?_ | refine chkP_den rfl ?_)
  refine pure_den _ (eql_eq _ _) (br_den (fun hb => by simp at hb) (fun _ => ?_))
  repeat (first | refine chkN_den ?_ | refine chkV_den ?_ | refine chkP_den rfl ?_)
  refine pure_den _ hvl ?_
  repeat (first | refine chkN_den ?_ | refine chkV_den ?_ | refine chkP_den rfl ?_)
  refine pure_den _ (eql_eq _ _) (br_den (fun _ => ?_) (fun hb => by simp [hkn] at hb))
  repeat (first | refine chkN_den ?_ | refine chkV_den ?_ | refine chkP_den rfl ?_)
  refine call_append (rows := rows) (news := [row]) (O1 := A) (O2 := []) (e := Ty_api_Object) (size := 12) (bytes := 80) (by kernel_rfl) (by simp) h (fun Hf lf _ => Sl.block1 (lf.1 _ _ hrb) hrl hro) (by simp; omega) (by simp; omega) ?_
  intro v' A' H6 l6 hA'
  repeat (first | refine chkN_den ?_ | refine chkV_den ?_ | refine chkP_den rfl ?_)
  refine ret_denO ⟨A', [], rfl, ?_⟩
  rw [hkn, List.take_length, List.drop_length, List.append_nil]
  exact hA'
 ·have hkl : k < rows.length := by omega
  rcases h with ⟨⟨a, rfl⟩, rfl, rfl⟩ | ⟨r, cs, cap, rfl, rfl, hcl, hlc, hcap, hl, ho, ht⟩
  ·simp at hkl
  have hsl := slc_lo (r := r) hk hlc (by omega)
  refine pure_den _ hsl ?_
  repeat (first | refine chkN_den ?_ | refine chkV_den ?_ | refine chkP_den rfl ?_)
  refine pure_den (iV 1) rfl ?_
  repeat (first | refine chkN_den ?_ | refine chkV_den ?_ | refine chkP_den rfl ?_)
  refine pure_den _ (eql_eq _ _) (br_den (fun hb => by simp at hb) (fun _ => ?_))
  repeat (first | refine chkN_den ?_ | refine chkV_den ?_ | refine chkP_den rfl ?_)
  refine pure_den _ hvl ?_
  repeat (first | refine chkN_den ?_ | refine chkV_den ?_ | refine chkP_den rfl ?_)
  refine pure_den _ (eql_eq _ _) (br_den (fun hb => by simp at hb; omega) (fun _ => ?_))
  repeat (first | refine chkN_den ?_ | refine chkV_den ?_ | refine chkP_den rfl ?_)
  refine pure_den _ (add_one (by omega)) ?_
  repeat (first | refine chkN_den ?_ | refine chkV_den ?_ | refine chkP_den rfl ?_)
  refine pure_den (iV (cap : Int)) rfl ?_
  repeat (first | refine chkN_den ?_ | refine chkV_den ?_ | refine chkP_den rfl ?_)
  refine pure_den _ (gtr_eq _ _) (br_den (fun hb => ?_) (fun hb => ?_))
  ·
   have hroom : cap < rows.length + 1 := by simp at hb; omega
   have hce : cap = rows.length := by omega
   obtain ⟨z, hz⟩ : ∃ z, inf.zero = some z := by
    have : ((PP.info? Ty_api_Object).bind (·.zero)).isSome = true := by kernel_rfl
    rw [hinf] at this
    exact Option.isSome_iff_exists.1 this
   have hz' : z = .agg #[iV 0, iV 0, iV 0, iV 0, iV 0, iV 0, iV 0, iV 0, iV 0, .bool false, .bool false, .bool false] := by
    have : (PP.info? Ty_api_Object).bind (·.zero) = some (.agg #[iV 0, iV 0, iV 0, iV 0, iV 0, iV 0, iV 0, iV 0, iV 0, .bool false, .bool false, .bool false]) := by kernel_rfl
    rw [hinf] at this
    exact Option.some.inj (hz.symm.trans this)
   have hby : inf.bytes ≤ 1000 := by
    have : ((PP.info? Ty_api_Object).map fun i => decide (i.bytes ≤ 1000)) = some true := by kernel_rfl
    rw [hinf] at this
    simpa using this
   repeat (first | refine chkN_den ?_ | refine chkV_den ?_ | refine chkP_den rfl ?_)
   refine pure_den _ (slc_hi (k := k) (by omega)) ?_
   repeat (first | refine chkN_den ?_ | refine chkV_den ?_ | refine chkP_den rfl ?_)
   refine pure_den _ (add_one (by omega)) ?_
   repeat (first | refine chkN_den ?_ | refine chkV_den ?_ | refine chkP_den rfl ?_)
   refine pure_den (iV ((rows.length + 1 - k : Nat) : Int)) (by
    have := sub_fit (x := ((rows.length + 1 : Nat) : Int)) (y := (k : Int)) (by omega) (by omega)
    rw [show ((rows.length + 1 : Nat) : Int) - k = ((rows.length + 1 - k : Nat) : Int) by omega] at this
    exact this) ?_
   repeat (first | refine chkN_den ?_ | refine chkV_den ?_ | refine chkP_den rfl ?_)
   refine call_grow (n := k) (m := rows.length + 1 - k) (cs := cs) (e := Ty_api_Object) (O2 := []) (kn := .i64) hu (by kernel_rfl) hinf hz (by rw [hsz, hz']; rfl) (by rw [hz']; simp [Value.cells, Value.oneCell']) (by omega) hby (List.Perm.refl _) (by rw [hsz]; omega) (by omega) (by omega) (by omega) fun r2 c2 zs hzl hc1 hc2 hzo => ?_
   rw [hsz] at hzl ⊢
   rw [show k + (rows.length + 1 - k) = rows.length + 1 by omega] at hc1 ⊢
   have hctl : (cs.take (k * 12)).length = k * 12 := by rw [List.length_take]; omega
   have hnl : (cs.take (k * 12) ++ zs).length = c2 * 12 := by rw [List.length_append, hctl, hzl]; omega
   repeat (first | refine chkN_den ?_ | refine chkV_den ?_ | refine chkP_den rfl ?_)
   refine pure_den _ (slc_lo (k := k) (by omega) hc1 (by omega)) ?_
   repeat (first | refine chkN_den ?_ | refine chkV_den ?_ | refine chkP_den rfl ?_)
   refine call_copy (r := r2) (off := k * 12) (e := Ty_api_Object) (O2 := [(r, .cells cs.toArray Ty_api_Object (0, 0))]) (m := 1) (k := 1) (src := row) hu hinf (List.Perm.refl _) (fun _ => rfl) (by omega) (fun w F hm => by
    rw [hsz]
    have := first_frz hm (P := PP) (size := 12) (k := 1) (n := 1) (cap := 1) hrb (by omega)
    rwa [show 1 * 12 = row.length by omega, List.take_length] at this) (by rw [hnl, hrl]; omega) (ones_mem hro) ?_
   repeat (first | refine chkN_den ?_ | refine chkV_den ?_ | refine chkP_den rfl ?_)
   refine pure_den _ (add_one (by omega)) ?_
   repeat (first | refine chkN_den ?_ | refine chkV_den ?_ | refine chkP_den rfl ?_)
   refine pure_den _ (slc_lo (k := k + 1) (by omega) hc1 (by omega)) ?_
   repeat (first | refine chkN_den ?_ | refine chkV_den ?_ | refine chkP_den rfl ?_)
   refine pure_den _ hsl ?_
   repeat (first | refine chkN_den ?_ | refine chkV_den ?_ | refine chkP_den rfl ?_)
   have hsrcl : ((cs.drop (k * 12)).take ((rows.length - k) * 12)).length = (rows.length - k) * 12 := by rw [List.length_take, List.length_drop]; omega
   have hsone : ∀ u ∈ (cs.drop (k * 12)).take ((rows.length - k) * 12), u.oneCell' = true := by
    rw [← (rows_flat hl ht hk).2]
    intro u hu'
    obtain ⟨rw', hr, hu2⟩ := List.mem_flatten.1 hu'
    exact ones_mem (ho rw' (List.mem_of_mem_drop hr)) u hu2
   have e1 : (cs.take (k * 12) ++ zs).take (k * 12) = cs.take (k * 12) := by rw [List.take_append_of_le_length (by omega), List.take_take, Nat.min_self]
   have hn1 : ((cs.take (k * 12) ++ zs).take (k * 12) ++ row ++ (cs.take (k * 12) ++ zs).drop (k * 12 + row.length)).length = c2 * 12 := by
    rw [List.length_append, List.length_append, e1, hctl, List.length_drop, hnl, hrl]; omega
   refine call_copy2 (r := r2) (off := (k + 1) * 12) (e := Ty_api_Object) (Y := [(r, .cells cs.toArray Ty_api_Object (0, 0))]) (O2 := []) (m := rows.length - k) (k := rows.length - k) (src := (cs.drop (k * 12)).take ((rows.length - k) * 12)) hu hinf (List.Perm.refl _) (fun _ => rfl) (by omega) (fun w F hm => by
    rw [hsz]
    exact first_own (hm.perm (List.perm_append_comm_assoc _ _ _)) (by omega)) (by rw [hn1, hsrcl]; omega) hsone ?_
   repeat (first | refine chkN_den ?_ | refine chkV_den ?_ | refine chkP_den rfl ?_)
   refine ret_denO ⟨_, [(r, .cells cs.toArray Ty_api_Object (0, 0))], by rw [List.append_nil], .inr ⟨r2, _, c2, ?_, rfl, ?_, ?_, hc2, ?_, ?_, ?_⟩⟩
   ·show Value.slice _ _ _ = Value.slice _ _ _
    rw [show (rows.take k ++ [row] ++ rows.drop k).length = rows.length + 1 by rw [List.length_append, List.length_append, List.length_take, List.length_drop, List.length_singleton]; omega]
   ·rw [List.length_append, List.length_append, List.length_take, List.length_drop, hn1, hsrcl]; omega
   ·rw [List.length_append, List.length_append, List.length_take, List.length_drop, List.length_singleton]; omega
   ·intro x hx
    simp only [List.mem_append, List.mem_singleton] at hx
    rcases hx with (hx | rfl) | hx
    ·exact hl x (List.mem_of_mem_take hx)
    ·exact hrl
    ·exact hl x (List.mem_of_mem_drop hx)
   ·intro x hx
    simp only [List.mem_append, List.mem_singleton] at hx
    rcases hx with (hx | rfl) | hx
    ·exact ho x (List.mem_of_mem_take hx)
    ·exact hro
    ·exact ho x (List.mem_of_mem_drop hx)
   ·have f1 : (rows.take k ++ [row] ++ rows.drop k).flatten = cs.take (k * 12) ++ row ++ (cs.drop (k * 12)).take ((rows.length - k) * 12) := by
     rw [List.flatten_append, List.flatten_append, (rows_flat hl ht hk).1, (rows_flat hl ht hk).2, List.flatten_cons, List.flatten_nil, List.append_nil]
    have f2 : (rows.take k ++ [row] ++ rows.drop k).length * 12 = (rows.length + 1) * 12 := by simp; omega
    rw [f1, f2, e1]
    have g1 : (cs.take (k * 12) ++ row).length = (k + 1) * 12 := by rw [List.length_append, hctl, hrl]; omega
    have g2 : (cs.take (k * 12) ++ row ++ (cs.take (k * 12) ++ zs).drop (k * 12 + row.length)).take ((k + 1) * 12) = cs.take (k * 12) ++ row := by
     rw [List.take_append_of_le_length (by omega), ← g1, List.take_length]
    rw [g2]
    have g3 : (cs.take (k * 12) ++ row ++ (cs.drop (k * 12)).take ((rows.length - k) * 12)).length = (rows.length + 1) * 12 := by rw [List.length_append, g1, hsrcl]; omega
    rw [List.take_append_of_le_length (by omega), ← g3, List.take_length]
  ·have hroom : rows.length + 1 ≤ cap := by simp at hb; omega
   repeat (first | refine chkN_den ?_ | refine chkV_den ?_ | refine chkP_den rfl ?_)
   refine pure_den _ (add_one (by omega)) ?_
   repeat (first | refine chkN_den ?_ | refine chkV_den ?_ | refine chkP_den rfl ?_)
   refine pure_den _ (slc_hi hroom) ?_
   repeat (first | refine chkN_den ?_ | refine chkV_den ?_ | refine chkP_den rfl ?_)
   refine pure_den _ (add_one (by omega)) ?_
   repeat (first | refine chkN_den ?_ | refine chkV_den ?_ | refine chkP_den rfl ?_)
   refine pure_den _ (slc_lo (k := k + 1) (by omega) hroom (by omega)) ?_
   repeat (first | refine chkN_den ?_ | refine chkV_den ?_ | refine chkP_den rfl ?_)
   refine call_apart (r := r) (rb := rb) (cs := cs) (bs := row) (e := Ty_api_Object) (size := 12) (tS := 22) (tR := Ty_bool) (O2 := []) Tryz.func106 (by kernel_rfl) (by kernel_rfl) (by kernel_rfl) (by kernel_rfl) (by kernel_rfl) (by kernel_rfl) (List.Perm.refl _) hrb (by omega) ?_
   repeat (first | refine chkN_den ?_ | refine chkV_den ?_ | refine chkP_den rfl ?_)
   refine pure_den (.bool true) rfl (br_den (fun _ => ?_) (fun hb => by cases hb))
   repeat (first | refine chkN_den ?_ | refine chkV_den ?_ | refine chkP_den rfl ?_)
   refine pure_den _ (add_one (by omega)) ?_
   repeat (first | refine chkN_den ?_ | refine chkV_den ?_ | refine chkP_den rfl ?_)
   refine pure_den _ (slc_lo (k := k + 1) (by omega) hroom (by omega)) ?_
   repeat (first | refine chkN_den ?_ | refine chkV_den ?_ | refine chkP_den rfl ?_)
   refine pure_den _ (slc_lo (k := k) (by omega) hroom (by omega)) ?_
   repeat (first | refine chkN_den ?_ | refine chkV_den ?_ | refine chkP_den rfl ?_)
   obtain ⟨h1, h2, h3⟩ := shift_cells (size := 12) (n := rows.length) (row := row) rfl hk hl ht hrl hcl hroom (src := (cs.drop (k * 12)).take ((rows.length - k) * 12)) rfl
   have hsrcl : ((cs.drop (k * 12)).take ((rows.length - k) * 12)).length = (rows.length - k) * 12 := by rw [List.length_take, List.length_drop]; omega
   have hsone : ∀ u ∈ (cs.drop (k * 12)).take ((rows.length - k) * 12), u.oneCell' = true := by
    rw [← (rows_flat hl ht hk).2]
    intro u hu'
    obtain ⟨rw', hr, hu2⟩ := List.mem_flatten.1 hu'
    exact ones_mem (ho rw' (List.mem_of_mem_drop hr)) u hu2
   refine call_copy (r := r) (off := (k + 1) * 12) (cs := cs) (e := Ty_api_Object) (O2 := []) (m := rows.length + 1 - k) (k := rows.length - k) (src := (cs.drop (k * 12)).take ((rows.length - k) * 12)) hu hinf (List.Perm.refl _) (fun _ => rfl) (by omega) (fun w F hm => by rw [hsz]; exact first_own hm (by omega)) (by rw [hsrcl]; omega) hsone ?_
   repeat (first | refine chkN_den ?_ | refine chkV_den ?_ | refine chkP_den rfl ?_)
   refine pure_den _ (slc_lo (k := k) (by omega) hroom (by omega)) ?_
   repeat (first | refine chkN_den ?_ | refine chkV_den ?_ | refine chkP_den rfl ?_)
   refine call_copy (r := r) (off := k * 12) (e := Ty_api_Object) (O2 := []) (m := 1) (k := 1) (src := row) hu hinf (List.Perm.refl _) (fun _ => rfl) (by omega) (fun w F hm => by
    rw [hsz]
    have := first_frz hm (P := PP) (size := 12) (k := 1) (n := 1) (cap := 1) hrb (by omega)
    rwa [show 1 * 12 = row.length by omega, List.take_length] at this) (by rw [h1, hrl]; omega) (ones_mem hro) ?_
   repeat (first | refine chkN_den ?_ | refine chkV_den ?_ | refine chkP_den rfl ?_)
   refine ret_denO ⟨_, [], (List.append_nil _).symm, .inr ⟨r, _, cap, ?_, rfl, h2, ?_, hcap, ?_, ?_, ?_⟩⟩
   ·simp; omega
   ·simp; omega
   ·intro x hx
    simp only [List.mem_append, List.mem_singleton] at hx
    rcases hx with (hx | rfl) | hx
    ·exact hl x (List.mem_of_mem_take hx)
    ·exact hrl
    ·exact hl x (List.mem_of_mem_drop hx)
   ·intro x hx
    simp only [List.mem_append, List.mem_singleton] at hx
    rcases hx with (hx | rfl) | hx
    ·exact ho x (List.mem_of_mem_take hx)
    ·exact hro
    ·exact ho x (List.mem_of_mem_drop hx)
   ·rw [← h3]; congr 2; simp; omega
end Go.Proofs.YtjaegdkkiefchaaGreatDoor
namespace Go.Proofs.YtjaegdkkiefchaaGreatDoor
open Go Go.Sx
set_option maxRecDepth 100000
set_option maxHeartbeats 1000000
/-- How many ids from m + 1 on are there, one after the other. -/
def freeL : List Ob → Nat → Nat
 | [], m => m
 | o :: l, m => if o.id = (m : Int) + 1 then freeL l (m + 1) else m
/-- The least free id, less by one. -/
def freeN (b : Bd) : Nat := freeL b.objs 0
theorem freeL_spec : ∀ (l : List Ob) (m : Nat), (l.map (·.id)).Pairwise (· < ·) → (∀ o ∈ l, (m : Int) < o.id) → m ≤ freeL l m ∧ freeL l m ≤ m + l.length ∧ (∀ j, m ≤ j → j < freeL l m → (l[j - m]?).map (·.id) = some ((j : Int) + 1)) ∧ ∀ o ∈ l, o.id ≠ (freeL l m : Int) + 1
 | [], m, _, _ => ⟨Nat.le_refl _, Nat.le_refl _, fun j h1 h2 => absurd h2 (by simp only [freeL]; omega), fun o ho => by simp at ho⟩
 | o :: l, m, hp, hm => by
  rw [List.map_cons, List.pairwise_cons] at hp
  have hl : ∀ x ∈ l, o.id < x.id := fun x hx => hp.1 _ (List.mem_map_of_mem hx)
  rw [freeL]
  by_cases e : o.id = (m : Int) + 1
  ·rw [if_pos e]
   obtain ⟨h1, h2, h3, h4⟩ := freeL_spec l (m + 1) hp.2 fun x hx => by have := hl x hx; omega
   refine ⟨by omega, by rw [List.length_cons]; omega, fun j hj1 hj2 => ?_, fun x hx => ?_⟩
   ·rcases Nat.eq_or_lt_of_le hj1 with rfl | hlt
    ·rw [Nat.sub_self]; show some o.id = _; rw [e]
    ·have := h3 j hlt hj2
     rw [show j - m = (j - (m + 1)) + 1 by omega, List.getElem?_cons_succ]
     exact this
   ·rcases List.mem_cons.1 hx with rfl | hx
    ·omega
    ·exact h4 x hx
  ·rw [if_neg e]
   refine ⟨Nat.le_refl _, by omega, fun j hj1 hj2 => by omega, fun x hx => ?_⟩
   have h0 := hm o List.mem_cons_self
   rcases List.mem_cons.1 hx with rfl | hx
   ·exact e
   ·have := hl x hx; omega
theorem free_spec {b : Bd} (h : validBd b = true) : freeN b ≤ b.objs.length ∧ (∀ j, j < freeN b → (b.objs[j]?).map (·.id) = some ((j : Int) + 1)) ∧ ∀ o ∈ b.objs, o.id ≠ (freeN b : Int) + 1 := by
 obtain ⟨_, h2, h3, h4⟩ := freeL_spec b.objs 0 (ord_pairwise (placed_objs (valid_parts h).1).1) fun o ho => by have := ((valid_ids h).1 o ho).1; omega
 exact ⟨by simpa [freeN] using h2, fun j hj => h3 j (Nat.zero_le _) hj, h4⟩
/-- The ids that are taken. -/
def inSB (l : List Ob) (m : Nat) : Bool := l.any fun o => o.id == (m : Int) + 1
theorem inSB_free {b : Bd} (h : validBd b = true) {m : Nat} (h1 : inSB b.objs m = false) (h2 : ∀ j, j < m → inSB b.objs j = true) : m = freeN b := by
 obtain ⟨_, f2, f3⟩ := free_spec h
 have hno : ∀ o ∈ b.objs, ¬ o.id = (m : Int) + 1 := by simpa [inSB] using h1
 rcases Nat.lt_trichotomy m (freeN b) with hlt | e | hgt
 ·have := f2 m hlt
  simp only [Option.map_eq_some_iff] at this
  obtain ⟨o, ho, he⟩ := this
  exact absurd he (hno o (List.mem_of_getElem? ho))
 ·exact e
 ·have := h2 _ hgt
  simp only [inSB, List.any_eq_true, beq_iff_eq] at this
  obtain ⟨o, ho, he⟩ := this
  exact absurd he (f3 o ho)
theorem inSB_take {l : List Ob} {i : Nat} (h : i < l.length) (m : Nat) : inSB (l.take (i + 1)) m = (inSB (l.take i) m || (l[i].id == (m : Int) + 1)) := by
 rw [inSB, List.take_add_one, List.getElem?_eq_getElem h, Option.toList_some, List.any_append]
 simp [inSB]
/-- A board with a token of the id m + 1. -/
def tokB (b : Bd) (m : Nat) (p pw tn : Int) : Bd := putB { b with objs := b.objs.take m ++ [tokO ((m : Int) + 1) p pw tn true] ++ b.objs.drop m } p 2 ((m : Int) + 1)
/-- board.Token: the board, the id and the error. -/
def tokV (b : Bd) (p pw tn most : Int) : Bd × Int × Int :=
 if (!validBd b || !withinB p 0 1) = true then (zBd, 0, 2) else if (b.objs.length : Int) ≥ most then (b, 0, 0) else if 500 ≤ freeN b then (b, 0, 0) else (tokB b (freeN b) p pw tn, (freeN b : Int) + 1, 0)
end Go.Proofs.YtjaegdkkiefchaaGreatDoor
namespace Go.Proofs.YtjaegdkkiefchaaGreatDoor
open Go Go.Sx
set_option maxRecDepth 100000
set_option maxHeartbeats 1000000
/-- A call that is handed blocks that it freezes, and a part of what is owned. -/
theorem call_partF {P : Program} {f : FuncId} {args : List Value} {H : Heap} {O O1 O2 : Own} {frz : List BV} {shp : Shp} {K : List Value → List (List Value) → Heap → Own → Prop} {R : Value → Heap → Own → Prop}
  (hO : O.Perm (O1 ++ O2)) (h : ∀ Hf, Heap.le H Hf → (∀ b ∈ frz, Hf b.r = some b.obj.2) → Triple P f args Hf O1 R) (hk : ∀ v H' O3, R v H' O3 → Heap.le H H' → ∃ vs, shp.open v = some vs ∧ Ones vs ∧ K vs [] H' (O3 ++ O2)) :
  CallD (fun H1 O1 R => Triple P f args H1 O1 R) false frz [] shp K H O := by
 intro hc
 have hf := insAll_get hc
 refine ⟨H.insAll frz, O1, O2, R, Ghost.perm hO, by simpa using h _ (Heap.le_insAll frz H) hf, ?_⟩
 intro v H' O' hr hle
 obtain ⟨vs, h1, h2, h3⟩ := hk v H' O' hr (Heap.le_trans (Heap.le_insAll frz H) hle)
 exact ⟨vs, [], O', h1, h2, trivial, rfl, h3⟩
theorem id_split {n : Int} (h1 : 1 ≤ n) (h2 : n ≤ 500) : ∃ q r : Nat, r < 64 ∧ 64 * q + r < 500 ∧ n = ((64 * q + r : Nat) : Int) + 1 :=
 ⟨(n - 1).toNat / 64, (n - 1).toNat % 64, by omega, by omega, by omega⟩
theorem bits_ext {ws : List Nat} {f g : Nat → Bool} (h : BitsOk ws f) (e : ∀ m, f m = g m) : BitsOk ws g := by
 rwa [← (funext e : f = g)]
/-- What board.Token hands back. -/
def TokR (b : Bd) (p pw tn most : Int) (v : Value) (O' : Own) : Prop :=
 ∃ w OB X, O'.Perm (OB ++ X) ∧ v = .tuple #[.agg (boardC w (tokV b p pw tn most).1).toArray, iV (tokV b p pw tn most).2.1, iV (tokV b p pw tn most).2.2] ∧ OwnB tys w (tokV b p pw tn most).1 OB
theorem c_Token {H : Heap} (hgl : GlobOk glob0 H) {v : BV12} {b : Bd} (h : BdS H v b) (hB : bdB b) {p pw tn most : Int} (h1 : pw < 9223372036854775808) (h2 : tn < 9223372036854775808) :
    Triple PP F_board_Token [.agg (boardC v b).toArray, iV p, iV pw, iV tn, iV most] H [] fun r _ O' => TokR b p pw tn most r O' := by
  refine run_board_Token (vs := boardC v b ++ [iV p, iV pw, iV tn, iV most]) (by kernel_rfl) (ones_app (boardC_ones (h.r [])) ⟨rfl, rfl, rfl, rfl, trivial⟩) ?_
  simp only [T_board_Token]
  refine newbox_den fun r0 => newbox_den fun r1 => ?_
  repeat (first | refine chkN_den ?_ | refine chkV_den ?_ | refine chkP_den rfl ?_)
  refine call_retO (c_board_Valid (h.r [])) rfl ⟨rfl, trivial⟩ fun H1 l1 => pure_den _ (not_eq' _) (br_den (fun hb => ?_) (fun hb => ?_))
  · have e : tokV b p pw tn most = (zBd, 0, 2) := by rw [tokV, if_pos (by rw [show validBd b = false from notT hb]; rfl)]
    repeat (first | refine chkN_den ?_ | refine chkV_den ?_ | refine chkP_den rfl ?_)
    exact ret_denO ⟨nilV, [], [], by simp, by rw [e]; rfl, by rw [e]; exact OwnB.zero tys⟩
  have hval : validBd b = true := notF hb
  repeat (first | refine chkN_den ?_ | refine chkV_den ?_ | refine chkP_den rfl ?_)
  refine call_retO (c_within p 0 1 H1 []) rfl ⟨rfl, trivial⟩ fun H2 l2 => pure_den _ (not_eq' _) (br_den (fun hb => ?_) (fun hb => ?_))
  · have e : tokV b p pw tn most = (zBd, 0, 2) := by rw [tokV, if_pos (by rw [show withinB p 0 1 = false from notT hb]; simp)]
    repeat (first | refine chkN_den ?_ | refine chkV_den ?_ | refine chkP_den rfl ?_)
    exact ret_denO ⟨nilV, [], [], by simp, by rw [e]; rfl, by rw [e]; exact OwnB.zero tys⟩
  have hw : withinB p 0 1 = true := notF hb
  have hcond : ¬ ((!validBd b || !withinB p 0 1) = true) := by rw [hval, hw]; simp
  have hp01 : p = 0 ∨ p = 1 := by simp only [withinB, decide_eq_true_eq] at hw; omega
  have l12 := Heap.le_trans l1 l2
  repeat (first | refine chkN_den ?_ | refine chkV_den ?_ | refine chkP_den rfl ?_)
  refine call_new (c_Copy (h.le l12) hB) ?_
  rintro _ H3 OB ⟨w, rfl, ho⟩ l3
  refine ⟨boardC w b, rfl, ownB_ones H3 ho, ?_⟩
  rw [List.append_nil]
  have hlen : evalPure .len [w.o] = some (iV b.objs.length) := by have := (ho.r (fun p hp => hp) H3).objs.len; rwa [List.length_map] at this
  have hol := valid_len hval
  repeat (first | refine chkN_den ?_ | refine chkV_den ?_ | refine chkP_den rfl ?_)
  refine pure_den _ hlen ?_
  repeat (first | refine chkN_den ?_ | refine chkV_den ?_ | refine chkP_den rfl ?_)
  refine pure_den _ (geq_eq _ _) (br_den (fun hb => ?_) (fun hb => ?_))
  · have e : tokV b p pw tn most = (b, 0, 0) := by rw [tokV, if_neg hcond, if_pos (by simpa using hb)]
    repeat (first | refine chkN_den ?_ | refine chkV_den ?_ | refine chkP_den rfl ?_)
    exact ret_denO ⟨w, OB, [], by simp, by rw [e]; rfl, by rw [e]; exact ho⟩
  have hmost : ¬ ((b.objs.length : Int) ≥ most) := by simpa using hb
  repeat (first | refine chkN_den ?_ | refine chkV_den ?_ | refine chkP_den rfl ?_)
  refine call_new c_idsNew ?_
  rintro _ H4 A0 ⟨pv, rfl, hA0⟩ l4
  have hpv : pv.oneCell' = true := by obtain ⟨r, s, A, rfl, _⟩ := hA0; rfl
  refine ⟨[pv, iV 0], rfl, ⟨hpv, rfl, trivial⟩, ?_⟩
  repeat (first | refine chkN_den ?_ | refine chkV_den ?_ | refine chkP_den rfl ?_)
  refine pure_den _ hlen ?_
  repeat (first | refine chkN_den ?_ | refine chkV_den ?_ | refine chkP_den rfl ?_)
  refine count_den b.objs.length (fun i H' O' => Heap.le H4 H' ∧ ∃ A ws, O'.Perm (A ++ OB) ∧ OIds pv ws A ∧ BitsOk ws (inSB (b.objs.take i))) ⟨Heap.le_refl _, A0, _, List.Perm.refl _, hA0, bits_ext bits_new fun m => by simp [inSB]⟩ ?_
  rintro i H' O' hi - ⟨hle, A, ws, hperm, hA, hbits⟩
  have hR : BdR H' O' w b := ho.r (fun p hp => hperm.mem_iff.2 (List.mem_append_right _ hp)) H'
  repeat (first | refine chkN_den ?_ | refine chkV_den ?_ | refine chkP_den rfl ?_)
  refine pure_den _ (lss_eq _ _) (br_den (fun hb => ?_) (fun hb => ?_))
  · have hlt : i < b.objs.length := by simpa using hb
    obtain ⟨a, i1, i2, _, i3, i4⟩ := hR.objs.idx .i64 i (Ob.row b.objs[i]) (by rw [List.getElem?_map, List.getElem?_eq_getElem hlt]; rfl)
    obtain ⟨d1, d2⟩ := (valid_ids hval).1 b.objs[i] (List.getElem_mem hlt)
    obtain ⟨q, rr, hr, h5, hid⟩ := id_split d1 d2
    repeat (first | refine chkN_den ?_ | refine chkV_den ?_ | refine chkP_den rfl ?_)
    refine pure_den _ i1 (load_denR i2 i3 i4 ?_)
    repeat (first | refine chkN_den ?_ | refine chkV_den ?_ | refine chkP_den rfl ?_)
    refine newbox_den fun r2 => ?_
    repeat (first | refine chkN_den ?_ | refine chkV_den ?_ | refine chkP_den rfl ?_)
    have hcl := c_Claim (H := H') hA hbits.len hbits.lt hr h5
    rw [idV, ← hid] at hcl
    refine call_part (O1 := A) (O2 := OB) hperm hcl ?_
    rintro _ H5 A5 ⟨⟨e5, rfl⟩, hA5⟩ l5
    refine ⟨[iV e5], rfl, ⟨rfl, trivial⟩, ?_⟩
    repeat (first | refine chkN_den ?_ | refine chkV_den ?_ | refine chkP_den rfl ?_)
    refine pure_den _ (add_one (by omega)) (count_cont (by simp [Eqs]) hlt ⟨Heap.le_trans hle l5, A5, _, List.Perm.refl _, hA5, bits_ext (hbits.claim (by omega) hr) fun m => ?_⟩)
    rw [inSB_take hlt]
    congr 1
    rw [Bool.eq_iff_iff]
    simp only [beq_iff_eq]
    omega
  have hil : i = b.objs.length := by have : ¬ i < b.objs.length := by simpa using hb
                                     omega
  subst hil
  rw [List.take_length] at hbits
  repeat (first | refine chkN_den ?_ | refine chkV_den ?_ | refine chkP_den rfl ?_)
  have hle4 : Heap.le H H' := Heap.le_trans l12 (Heap.le_trans l3 (Heap.le_trans l4 hle))
  refine call_part (O1 := A) (O2 := OB) hperm (c_Take (hgl.le hle4) hA hbits) ?_
  rintro tv H6 X htv l6
  rcases htv with ⟨m, hm5, hmf, hmb, rfl⟩ | ⟨hall, rfl⟩
  · obtain rfl := inSB_free hval hmf hmb
    have e : tokV b p pw tn most = (tokB b (freeN b) p pw tn, (freeN b : Int) + 1, 0) := by rw [tokV, if_neg hcond, if_neg hmost, if_neg (by omega)]
    have hfl := (free_spec hval).1
    refine ⟨[iV ((freeN b : Int) + 1), iV 0], rfl, ⟨rfl, rfl, trivial⟩, ?_⟩
    repeat (first | refine chkN_den ?_ | refine chkV_den ?_ | refine chkP_den rfl ?_)
    refine pure_den _ (neq_eq _ _) (br_den (fun hb => by cases hb) (fun _ => ?_))
    repeat (first | refine chkN_den ?_ | refine chkV_den ?_ | refine chkP_den rfl ?_)
    refine call_retO (c_object_Token h1 h2) rfl (vs := (tokO ((freeN b : Int) + 1) p pw tn false).row) (ob_ones _) fun H7 l7 => ?_
    repeat (first | refine chkN_den ?_ | refine chkV_den ?_ | refine chkP_den rfl ?_)
    refine newbox_den fun r3 => ?_
    repeat (first | refine chkN_den ?_ | refine chkV_den ?_ | refine chkP_den rfl ?_)
    refine pure_den (iV (freeN b : Int)) (by rw [show (iV (freeN b : Int)) = iV ((freeN b : Int) + 1 - 1) by congr 1; omega]; exact sub_fit (by omega) (by omega)) ?_
    repeat (first | refine chkN_den ?_ | refine chkV_den ?_ | refine chkP_den rfl ?_)
    refine newbox_den fun r4 => ?_
    repeat (first | refine chkN_den ?_ | refine chkV_den ?_ | refine chkP_den rfl ?_)
    obtain ⟨Ao, Ro, po, hAo, backo⟩ := OwnB.pick_objs ho
    refine call_partF (O1 := Ao) (O2 := Ro ++ X) (by
      refine List.perm_append_comm.trans ?_
      rw [← List.append_assoc]
      exact po.append_right X) (fun Hf lf hf => c_Insert (k := freeN b) (row := (tokO ((freeN b : Int) + 1) p pw tn true).row) hAo (by rw [List.length_map]; exact hfl) (by rw [List.length_map]; exact hol) rfl (ob_ones _) (hf _ List.mem_cons_self)) ?_
    rintro v' H8 _ ⟨A8, X8, rfl, hA8⟩ l8
    refine ⟨[v'], rfl, ⟨hA8.one, trivial⟩, ?_⟩
    have hA9 : OSl tys.ob 12 v' (List.map Ob.row (b.objs.take (freeN b) ++ [tokO ((freeN b : Int) + 1) p pw tn true] ++ b.objs.drop (freeN b))) A8 := by
      rw [List.map_append, List.map_append, List.map_take, List.map_drop]
      exact hA8
    have ho2 := backo _ _ _ hA9
    obtain ⟨_, ⟨_, _, bf0, _⟩, ⟨_, _, bf1, _⟩, _⟩ := hB
    rcases hp01 with rfl | rfl
    · repeat (first | refine chkN_den ?_ | refine chkV_den ?_ | refine chkP_den rfl ?_)
      refine ⟨.i64, 0, rfl, fun _ => ?_, fun e => absurd rfl e⟩
      repeat (first | refine chkN_den ?_ | refine chkV_den ?_ | refine chkP_den rfl ?_)
      refine newbox_den fun r5 => ?_
      repeat (first | refine chkN_den ?_ | refine chkV_den ?_ | refine chkP_den rfl ?_)
      obtain ⟨A, R, hp, hA, back⟩ := OwnB.pick_f0 ho2
      refine call_append (rows := ints b.s0.field) (news := [[iV ((freeN b : Int) + 1)]]) (O1 := A) (O2 := R ++ (X8 ++ X)) (e := Ty_int) (size := 1) (bytes := 8) (by kernel_rfl) (by
        have : (A8 ++ X8 ++ (Ro ++ X)).Perm (A8 ++ Ro ++ (X8 ++ X)) := by
          rw [List.append_assoc, List.append_assoc]
          exact (List.perm_append_comm_assoc X8 Ro X).append_left A8
        refine this.trans ?_
        rw [← List.append_assoc A R]
        exact hp.append_right _) hA (fun Hf _ hf => Sl.block1 (hf _ List.mem_cons_self) rfl ⟨rfl, trivial⟩) (by simp [ints]; omega) (by simp [ints]; omega) ?_
      intro v2 A2 H9 l9 hA2
      have hA3 : OSl Ty_int 1 v2 (ints (b.s0.field ++ [(freeN b : Int) + 1])) A2 := by rw [ints, List.map_append]; exact hA2
      have hfin := back _ _ _ hA3
      repeat (first | refine chkN_den ?_ | refine chkV_den ?_ | refine chkP_den rfl ?_)
      refine ⟨.i64, 0, rfl, fun _ => ?_, fun e => absurd rfl e⟩
      repeat (first | refine chkN_den ?_ | refine chkV_den ?_ | refine chkP_den rfl ?_)
      refine ret_denO ⟨{ w with o := v', f0 := v2 }, A2 ++ R, X8 ++ X, by rw [List.append_assoc], ?_, ?_⟩
      · rw [e]; rfl
      · rw [e]; exact hfin
    · repeat (first | refine chkN_den ?_ | refine chkV_den ?_ | refine chkP_den rfl ?_)
      refine ⟨.i64, 1, rfl, fun e => absurd e (by omega), fun _ => ⟨.i64, 1, rfl, fun _ => ?_, fun e => absurd rfl e⟩⟩
      repeat (first | refine chkN_den ?_ | refine chkV_den ?_ | refine chkP_den rfl ?_)
      refine newbox_den fun r5 => ?_
      repeat (first | refine chkN_den ?_ | refine chkV_den ?_ | refine chkP_den rfl ?_)
      obtain ⟨A, R, hp, hA, back⟩ := OwnB.pick_f1 ho2
      refine call_append (rows := ints b.s1.field) (news := [[iV ((freeN b : Int) + 1)]]) (O1 := A) (O2 := R ++ (X8 ++ X)) (e := Ty_int) (size := 1) (bytes := 8) (by kernel_rfl) (by
        have : (A8 ++ X8 ++ (Ro ++ X)).Perm (A8 ++ Ro ++ (X8 ++ X)) := by
          rw [List.append_assoc, List.append_assoc]
          exact (List.perm_append_comm_assoc X8 Ro X).append_left A8
        refine this.trans ?_
        rw [← List.append_assoc A R]
        exact hp.append_right _) hA (fun Hf _ hf => Sl.block1 (hf _ List.mem_cons_self) rfl ⟨rfl, trivial⟩) (by simp [ints]; omega) (by simp [ints]; omega) ?_
      intro v2 A2 H9 l9 hA2
      have hA3 : OSl Ty_int 1 v2 (ints (b.s1.field ++ [(freeN b : Int) + 1])) A2 := by rw [ints, List.map_append]; exact hA2
      have hfin := back _ _ _ hA3
      repeat (first | refine chkN_den ?_ | refine chkV_den ?_ | refine chkP_den rfl ?_)
      refine ⟨.i64, 1, rfl, fun e => absurd e (by omega), fun _ => ⟨.i64, 1, rfl, fun _ => ?_, fun e => absurd rfl e⟩⟩
      repeat (first | refine chkN_den ?_ | refine chkV_den ?_ | refine chkP_den rfl ?_)
      refine ret_denO ⟨{ w with o := v', f1 := v2 }, A2 ++ R, X8 ++ X, by rw [List.append_assoc], ?_, ?_⟩
      · rw [e]; rfl
      · rw [e]; exact hfin
  · have hge : 500 ≤ freeN b := by
      refine Nat.le_of_not_lt fun hlt => ?_
      have h3 := hall _ hlt
      simp only [inSB, List.any_eq_true, beq_iff_eq] at h3
      obtain ⟨o, ho', he⟩ := h3
      exact (free_spec hval).2.2 o ho' he
    have e : tokV b p pw tn most = (b, 0, 0) := by rw [tokV, if_neg hcond, if_neg hmost, if_pos hge]
    refine ⟨[iV 0, iV 7], rfl, ⟨rfl, rfl, trivial⟩, ?_⟩
    repeat (first | refine chkN_den ?_ | refine chkV_den ?_ | refine chkP_den rfl ?_)
    refine pure_den _ (neq_eq _ _) (br_den (fun _ => ?_) (fun hb => by cases hb))
    repeat (first | refine chkN_den ?_ | refine chkV_den ?_ | refine chkP_den rfl ?_)
    exact ret_denO ⟨w, OB, X, List.perm_append_comm, by rw [e]; rfl, by rw [e]; exact ho⟩
end Go.Proofs.YtjaegdkkiefchaaGreatDoor
