/- Small functions: numbers, slices of ints, function values over slices. -/
import Derived.Test.YtjaegdkkiefchaaGreatDoorBT3
import Derived.Test.YtjaegdkkiefchaaGreatDoorFw2
namespace Go.Proofs.YtjaegdkkiefchaaGreatDoor
open Go Go.Sx
set_option maxRecDepth 100000
set_option maxHeartbeats 1000000

abbrev I (n : Int) : Value := .int .i64 n
theorem c_within (a lo hi : Int) (H : Heap) (O : Own) : RetO PP F_board_within [I a, I lo, I hi] H O (.bool (decide (lo ≤ a ∧ a ≤ hi))) := by
  refine run_board_within (vs := [I a, I lo, I hi]) (by kernel_rfl) ⟨rfl, rfl, rfl, trivial⟩ ?_
  unfold T_board_within
  refine pure_den _ (geq_eq _ _) (chkV_den (chkV_den (pure_den _ (leq_eq _ _) (chkV_den (pure_den _ (pick_and _ _) (ret_denO ⟨?_, rfl⟩))))))
  simp [Bool.decide_and]
/-- The place of a number in a list. -/
def idxI : List Int → Int → Int → Int
  | [], _, _ => -1
  | a :: r, x, i => if x == a then i else idxI r x (i + 1)
theorem idxI_ge : ∀ (l : List Int) (x i : Int), 0 ≤ i → (decide (0 ≤ idxI l x i) = l.contains x)
  | [], x, i, _ => by simp [idxI]
  | a :: r, x, i, h => by
    simp only [idxI, List.contains_cons]
    by_cases hx : x = a
    · simp [hx, h]
    · simp only [beq_iff_eq, hx, if_false]
      rw [idxI_ge r x (i + 1) (by omega)]
      simp [hx]
theorem c_Index_int {H : Heap} {O : Own} {v : Value} {l : List Int} (h : RSl H O 1 v (l.map fun n => [I n])) (x : Int) : RetO PP F_slices_Index_int_int [v, I x] H O (I (idxI l x 0)) := by
  refine run_slices_Index_int_int (vs := [v, I x]) (by kernel_rfl) ⟨h.one, rfl, trivial⟩ ?_
  simp only [T_slices_Index_int_int]
  refine pure_den _ h.len ?_
  refine count_den l.length (fun i H' O' => O' = O ∧ Heap.le H H' ∧ idxI l x 0 = idxI (l.drop i) x i) ⟨rfl, Heap.le_refl H, by simp⟩ ?_
  rintro i H' O' hi - ⟨rfl, hle, hor⟩
  refine pure_den _ (lss_eq _ _) (br_den (fun hb => ?_) (fun hb => ?_))
  · have hlt : i < l.length := by simpa using hb
    obtain ⟨a, h1, h2, _, h3, h4⟩ := (h.le hle).idx .i64 i [I l[i]] (by simp [hlt])
    refine pure_den _ h1 (load_denR h2 h3 h4 (pure_den _ (eql_eq _ _) (br_den (fun hb => ?_) (fun hb => ?_))))
    · refine ret_denO ⟨?_, rfl⟩
      rw [hor, List.drop_eq_getElem_cons hlt, idxI, if_pos hb]; rfl
    · refine pure_den _ (add_one (by have := h.lenB; simp at this; omega)) (count_cont (by simp [Eqs]) hlt ⟨rfl, hle, ?_⟩)
      rw [hor, List.drop_eq_getElem_cons hlt, idxI, if_neg (by rw [hb]; simp)]; rfl
  · have hge : l.length ≤ i := by simpa using hb
    refine ret_denO ⟨?_, rfl⟩
    rw [hor, List.drop_of_length_le hge]; rfl
theorem c_Contains_int {H : Heap} {O : Own} {v : Value} {l : List Int} (h : RSl H O 1 v (l.map fun n => [I n])) (x : Int) : RetO PP F_slices_Contains_int_int [v, I x] H O (.bool (l.contains x)) := by
  refine run_slices_Contains_int_int (vs := [v, I x]) (by kernel_rfl) ⟨h.one, rfl, trivial⟩ ?_
  simp only [T_slices_Contains_int_int]
  refine call_retO (c_Index_int h x) rfl ⟨rfl, trivial⟩ fun H1 _ => pure_den _ (geq_eq _ _) (ret_denO ⟨?_, rfl⟩)
  rw [← idxI_ge l x 0 (by omega)]
theorem c_Equal_int {H : Heap} {O : Own} {v v' : Value} {l l' : List Int} (h : RSl H O 1 v (l.map fun n => [I n])) (h' : RSl H O 1 v' (l'.map fun n => [I n])) : RetO PP F_slices_Equal_int_int [v, v'] H O (.bool (l == l')) := by
  refine run_slices_Equal_int_int (vs := [v, v']) (by kernel_rfl) ⟨h.one, h'.one, trivial⟩ ?_
  simp only [T_slices_Equal_int_int]
  refine pure_den _ h.len (pure_den _ h'.len (pure_den _ (neq_eq _ _) (br_den (fun hb => ret_denO ⟨?_, rfl⟩) (fun hb => ?_))))
  · have : l ≠ l' := by intro e; subst e; simp at hb
    simp [this]
  · have hlen : l.length = l'.length := by simp at hb; omega
    refine pure_den _ h.len ?_
    refine count_den l.length (fun i H' O' => O' = O ∧ Heap.le H H' ∧ l.take i = l'.take i) ⟨rfl, Heap.le_refl H, by simp⟩ ?_
    rintro i H' O' hi - ⟨rfl, hle, hor⟩
    refine pure_den _ (lss_eq _ _) (br_den (fun hb => ?_) (fun hb => ?_))
    · have hlt : i < l.length := by simpa using hb
      have hlt' : i < l'.length := by omega
      obtain ⟨a, h1, h2, _, h3, h4⟩ := (h.le hle).idx .i64 i [I l[i]] (by simp [hlt])
      obtain ⟨b, k1, k2, _, k3, k4⟩ := (h'.le hle).idx .i64 i [I l'[i]] (by simp [hlt'])
      refine pure_den _ h1 (load_denR h2 h3 h4 (pure_den _ k1 (load_denR k2 k3 k4 (pure_den _ (neq_eq _ _) (br_den (fun hb => ret_denO ⟨?_, rfl⟩) (fun hb => ?_))))))
      · have hne : l[i] ≠ l'[i] := by simpa using hb
        have : l ≠ l' := by rintro rfl; exact hne rfl
        simp [this]
      · have he : l[i] = l'[i] := by simpa using hb
        refine pure_den _ (add_one (by have := h.lenB; simp at this; omega)) (count_cont (by simp [Eqs]) hlt ⟨rfl, hle, ?_⟩)
        rw [List.take_add_one, List.take_add_one, hor, List.getElem?_eq_getElem hlt, List.getElem?_eq_getElem hlt', he]
    · have hge : l.length ≤ i := by simpa using hb
      refine ret_denO ⟨?_, rfl⟩
      rw [List.take_of_length_le hge, List.take_of_length_le (by omega)] at hor
      simp [hor]
/-- A new slice with the same rows. -/
theorem c_Clone_int {H : Heap} {v : Value} {l : List (List Value)} (h : Sl H 1 v l) (hb : l.length ≤ 2 ^ 40) : Triple PP F_slices_Clone_int_int [v] H [] fun v' H' O' => OSl Ty_int 1 v' l O' := by
  refine run_slices_Clone_int_int (vs := [v]) (by kernel_rfl) ⟨h.one, trivial⟩ ?_
  simp only [T_slices_Clone_int_int]
  obtain ⟨a, cap, rfl, h1, h2, h3⟩ := h
  have hev : evalPure (.bin .eql .slice) [.slice a l.length cap, .slice none 0 0] = some (.bool a.isNone) := by cases a <;> rfl
  refine pure_den _ hev (br_den (fun hn => ret_denO ?_) (fun hn => fun r0 => ?_))
  · have hl : l = [] := by
      by_cases hl : l = []
      · exact hl
      · obtain ⟨ad, rfl, _⟩ := h3 hl; cases hn
    subst hl
    exact OSl.nil Ty_int 1
  · refine call_append (rows := []) (news := l) (O1 := []) (O2 := []) (e := Ty_int) (size := 1) (bytes := 8) (by kernel_rfl) (List.Perm.refl _) (.inl ⟨⟨_, rfl⟩, rfl, rfl⟩) (fun Hf hl _ => Sl.le hl ⟨a, cap, rfl, h1, h2, h3⟩) (by simp; omega) (by simp; omega) ?_
    intro v' O1' H' _ ho
    refine ret_denO ?_
    rw [List.append_nil]
    exact ho
end Go.Proofs.YtjaegdkkiefchaaGreatDoor
