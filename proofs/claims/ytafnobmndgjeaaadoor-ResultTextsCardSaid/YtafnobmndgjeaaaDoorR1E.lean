/- Strings: Index, Cut, TrimSuffix, slices.Index. -/
import Derived.Test.YtafnobmndgjeaaaDoorR1D
namespace Go.Proofs.YtafnobmndgjeaaaDoor
open Go Go.Sx Go.Lib
set_option maxRecDepth 100000

theorem indexByte_cases (l : List UInt8) (c : UInt8) : indexByte l c = -1 ∨ ∃ n : Nat, n < l.length ∧ indexByte l c = n := by
  induction l with
  | nil => exact .inl rfl
  | cons b l ih =>
    simp only [indexByte]
    split
    · exact .inr ⟨0, by simp, rfl⟩
    · rcases ih with h | ⟨n, hn, h⟩
      · left; simp [h]
      · right
        rw [h]
        refine ⟨n + 1, by simpa using hn, ?_⟩
        rw [if_neg (by simp)]; rfl
theorem s49 (l : List UInt8) (c : Int) (H : Heap) : Ret Tryd.prog 49 [Str l, .int .u8 c] H (I (indexByte l c.toNat.toUInt8)) := by
  refine run49 (vs := [Str l, .int .u8 c]) (by kernel_rfl) ⟨rfl, rfl, trivial⟩ ?_
  simp only [t49]
  refine prim_val (v := I (indexByte l c.toNat.toUInt8)) (fun w => ?_) rfl ⟨rfl, trivial⟩ (ret_den ⟨rfl, rfl⟩)
  exact intr_val (e := Extern.BytealgIndexByte.indexByte) Tryd.func53 (by kernel_rfl) (by kernel_rfl) (by kernel_rfl) (by kernel_rfl) (fun w => run_indexByteString ⟨l.toArray⟩ c w) w
theorem s46 (l : List UInt8) (b : UInt8) (H : Heap) : Ret Tryd.prog 46 [Str l, Str [b]] H (I (indexByte l b)) := by
  refine run46 (vs := [Str l, Str [b]]) (by kernel_rfl) ⟨rfl, rfl, trivial⟩ ?_
  unfold t46
  refine pure_den _ (str_len _) (pure_den _ (eql_eq _ _) (chkV_den (chkV_den (pure_den _ (str_eql _ _) (chkV_den (pure_den _ (pick_eq _ _ _) ?_))))))
  refine br_den (b := ([b] == l)) (fun hb => ret_den ⟨?_, rfl⟩) (fun _ => pure_den _ (eql_eq _ _) (br_den (fun _ => ?_) (fun hb => ?_)))
  · have : l = [b] := by simp at hb; exact hb.symm
    subst this; simp [indexByte]
  · refine pure_den (.int .u8 b.toNat) (str_get [b] 0 (by simp)) (call_ret (s49 l b.toNat H) rfl ⟨rfl, trivial⟩ fun H1 _ => ret_den ⟨?_, rfl⟩)
    show I _ = I _
    simp
  · simp at hb
/-- strings.Cut at one byte. -/
def cutL (l : List UInt8) (b : UInt8) : List UInt8 × List UInt8 × Bool :=
  if 0 ≤ indexByte l b then (l.take (indexByte l b).toNat, l.drop ((indexByte l b).toNat + 1), true) else (l, [], false)
def cutV (l : List UInt8) (b : UInt8) : Value := .tuple #[Str (cutL l b).1, Str (cutL l b).2.1, .bool (cutL l b).2.2]
theorem s39 (l : List UInt8) (b : UInt8) (hl : l.length < 2 ^ 60) (H : Heap) : Ret Tryd.prog 39 [Str l, Str [b]] H (cutV l b) := by
  refine run39 (vs := [Str l, Str [b]]) (by kernel_rfl) ⟨rfl, rfl, trivial⟩ ?_
  simp only [t39]
  refine call_ret (s46 l b H) rfl ⟨rfl, trivial⟩ fun H1 _ => pure_den _ (geq_eq _ _) (br_den (fun hb => ?_) (fun hb => ?_))
  · have hge : 0 ≤ indexByte l b := of_decide_eq_true hb
    rcases indexByte_cases l b with h | ⟨n, hn, h⟩
    · omega
    · show Tree.den _ _ (Tree.pure [] (.sslc false true) [Str l, I (indexByte l b)] _) _ _
      rw [h]
      refine pure_den _ (str_take l n (by omega)) (pure_den _ (str_len [b]) ?_)
      refine pure_den _ (add_nat (i := n) (n := 1) (by omega)) (pure_den _ (str_drop l (n + 1) (by omega)) (ret_den ⟨?_, rfl⟩))
      simp [cutV, cutL, h]
  · have hlt : ¬ 0 ≤ indexByte l b := of_decide_eq_false hb
    refine ret_den ⟨?_, rfl⟩
    simp [cutV, cutL, hlt, g]
theorem s33 (l : List UInt8) (b : UInt8) (hl : l.length < 2 ^ 60) (H : Heap) : Ret Tryd.prog 33 [Str l, Str [b]] H (cutV l b) := by
  refine run33 (vs := [Str l, Str [b]]) (by kernel_rfl) ⟨rfl, rfl, trivial⟩ ?_
  simp only [t33]
  exact call_ret (s39 l b hl H) rfl ⟨rfl, rfl, rfl, trivial⟩ fun H1 _ => ret_den ⟨rfl, rfl⟩
/-- The place of a word in a list. -/
def idxF : List (List UInt8) → List UInt8 → Int → Int
  | [], _, _ => -1
  | a :: r, v, i => if v == a then i else idxF r v (i + 1)
theorem s34 {H : Heap} {s : Value} {l : List (List UInt8)} (h : Sl H 1 s (l.map fun a => [Str a])) (v : List UInt8) : Ret Tryd.prog 34 [s, Str v] H (I (idxF l v 0)) := by
  refine run34 (vs := [s, Str v]) (by kernel_rfl) ⟨h.one, rfl, trivial⟩ ?_
  simp only [t34]
  refine pure_den _ h.len ?_
  refine count_den l.length (fun i H' O' => O' = [] ∧ Heap.le H H' ∧ idxF l v 0 = idxF (l.drop i) v i) ⟨rfl, Heap.le_refl H, by simp⟩ ?_
  rintro i H' O' hi - ⟨rfl, hle, hor⟩
  refine pure_den _ (lss_eq _ _) (br_den (fun hb => ?_) (fun hb => ?_))
  · have hlt : i < l.length := by simpa using hb
    obtain ⟨a, h1, h2, h3, h4⟩ := (h.le hle).idx (k := .i64) (i := i) (r := [Str l[i]]) (by simp [hlt])
    refine pure_den _ h1 (load_den h2 h3 h4 (pure_den _ (str_eql _ _) (br_den (fun hb => ?_) (fun hb => ?_))))
    · refine ret_den ⟨?_, rfl⟩
      rw [hor, List.drop_eq_getElem_cons hlt, idxF, if_pos hb]; rfl
    · refine pure_den _ (add_one (by have := h.lenB; simp at this; omega)) (count_cont (by simp [Eqs]) hlt ⟨rfl, hle, ?_⟩)
      rw [hor, List.drop_eq_getElem_cons hlt, idxF, if_neg (by rw [hb]; simp)]; rfl
  · have hge : l.length ≤ i := by simpa using hb
    refine ret_den ⟨?_, rfl⟩
    rw [hor, List.drop_of_length_le hge]; rfl
/-- strings.HasSuffix, TrimSuffix. -/
def hasSuf (l t : List UInt8) : Bool := decide (t.length ≤ l.length) && (l.drop (l.length - t.length) == t)
theorem sub_nat {i n : Nat} (h : n ≤ i) (hi : i < 2 ^ 62) : evalPure (.bin .sub .int) [.int .i64 (i : Int), .int .i64 (n : Int)] = some (.int .i64 ((i - n : Nat) : Int)) := by
  simp only [evalPure, evalBin, evalInt, if_true]
  rw [wrap_id (by omega) (by omega), Int.ofNat_sub h]
theorem s38 (l t : List UInt8) (hl : l.length < 2 ^ 60) (ht : t.length < 2 ^ 60) (H : Heap) : Ret Tryd.prog 38 [Str l, Str t] H (.bool (hasSuf l t)) := by
  refine run38 (vs := [Str l, Str t]) (by kernel_rfl) ⟨rfl, rfl, trivial⟩ ?_
  simp only [t38]
  refine pure_den _ (str_len l) (pure_den _ (str_len t) (pure_den _ (geq_eq _ _) (chkV_den (pure_den _ (str_len l) (chkV_den (pure_den _ (str_len t) (chkV_den (chkV_den ?_))))))))
  by_cases hle : t.length ≤ l.length
  · refine pure_den _ (sub_nat hle (by omega)) (chkV_den (chkV_den ⟨_, fun _ => str_drop l _ (by omega), .inr rfl, chkV_den (chkV_den (pure_den _ (str_eql _ _) (chkV_den (pure_den _ (pick_eq _ _ _) (ret_den ⟨?_, rfl⟩)))))⟩))
    simp [hasSuf, hle]
  · refine pure_den (I (IntKind.i64.wrap (l.length - t.length))) (by simp [evalPure, evalBin, evalInt]) (chkV_den (chkV_den ⟨Str [], fun hg => ?_, .inr rfl, chkV_den (chkV_den (pure_den _ (str_eql _ _) (chkV_den (pure_den _ (pick_eq _ _ _) (ret_den ⟨?_, rfl⟩)))))⟩))
    · simp [On] at hg; omega
    · simp [hasSuf, hle]
def trimSuf (l t : List UInt8) : List UInt8 := if hasSuf l t then l.take (l.length - t.length) else l
theorem s32 (l t : List UInt8) (hl : l.length < 2 ^ 60) (ht : t.length < 2 ^ 60) (H : Heap) : Ret Tryd.prog 32 [Str l, Str t] H (Str (trimSuf l t)) := by
  refine run32 (vs := [Str l, Str t]) (by kernel_rfl) ⟨rfl, rfl, trivial⟩ ?_
  simp only [t32]
  refine call_ret (s38 l t hl ht H) rfl ⟨rfl, trivial⟩ fun H1 _ => br_den (b := hasSuf l t) (fun hb => ?_) (fun hb => ret_den ⟨?_, rfl⟩)
  · have hle : t.length ≤ l.length := by simp only [hasSuf, Bool.and_eq_true, decide_eq_true_eq] at hb; exact hb.1
    refine pure_den _ (str_len l) (pure_den _ (str_len t) (pure_den _ (sub_nat hle (by omega)) (pure_den _ (str_take l _ (by omega)) (ret_den ⟨?_, rfl⟩))))
    simp [trimSuf, hb]
  · simp [trimSuf, hb, g]
theorem s24 (l t : List UInt8) (hl : l.length < 2 ^ 60) (ht : t.length < 2 ^ 60) (H : Heap) : Ret Tryd.prog 24 [Str l, Str t] H (Str (trimSuf l t)) := by
  refine run24 (vs := [Str l, Str t]) (by kernel_rfl) ⟨rfl, rfl, trivial⟩ ?_
  simp only [t24]
  exact call_ret (s32 l t hl ht H) rfl ⟨rfl, trivial⟩ fun H1 _ => ret_den ⟨rfl, rfl⟩
end Go.Proofs.YtafnobmndgjeaaaDoor
