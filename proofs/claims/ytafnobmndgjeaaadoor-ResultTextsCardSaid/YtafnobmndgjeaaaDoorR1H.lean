/- The examples of the chapter; the law on the bound. -/
import Derived.Test.YtafnobmndgjeaaaDoorR1G
namespace Go.Proofs.YtafnobmndgjeaaaDoor
open Go Go.Sx Go.Lib
set_option maxRecDepth 100000

def kc (a b : Int) (x y : Value) : List Value := [.slice none 0 0, I a, I 0, I 0, I 0, I 0, x, .slice none 0 0, .slice none 0 0, .slice none 0 0, .bool false, .bool false, .bool false, I 0, I 0,
  I b, I 0, I 0, I 0, I 0, y, .slice none 0 0, .slice none 0 0, .slice none 0 0, .bool false, .bool false, .bool false, I 0, I 0, .slice none 0 0, .slice none 0 0, .slice none 0 0, .slice none 0 0, I 0, I 0, I 0, I 0, I 0]
theorem kc_jb (a b : Int) (x y : Option Addr) (n k n' k' : Nat) : JB (kc a b (.slice x n n') (.slice y k k')) a b n k :=
  ⟨rfl, by simp [kc, Ones, Value.oneCell'], rfl, rfl, rfl, rfl⟩
theorem j_true {c : List Value} {x y : Int} {n k : Nat} (hc : JB c x y n k) {p q : Bool} {r o : Int} (h : (jO p q r x y n k == o && (jR r == r || (o == 0 && jR r == 0))) = true) (H : Heap) :
    Ret Tryd.prog 19 [.agg c.toArray, .bool p, .bool q, I r, I o] H (.bool true) := by
  have := s19 hc p q r o H
  rwa [h] at this
theorem ps_hit {l : List UInt8} {a b : Nat} (ha : a < 4) (hb : b < 6) (h : ∀ o < 4, ∀ r < 6, hit l o r = true → o = a ∧ r = b) (h' : hit l a b = true) {o r e : Int} (hp : PS l o r e) : o = a ∧ r = b ∧ e = 0 := by
  rcases hp with ⟨a', b', h1, h2, h3, rfl, rfl, rfl⟩ | ⟨hn, _⟩
  · obtain ⟨rfl, rfl⟩ := h a' h1 b' h2 h3
    exact ⟨rfl, rfl, rfl⟩
  · rw [hn a ha b hb] at h'; cases h'
theorem ps_no {l : List UInt8} (h : ∀ o < 4, ∀ r < 6, hit l o r = false) {o r e : Int} (hp : PS l o r e) : o = 0 ∧ r = 0 ∧ e = 6 := by
  rcases hp with ⟨a', b', h1, h2, h3, _⟩ | ⟨_, h⟩
  · rw [h a' h1 b' h2] at h3; cases h3
  · exact h
theorem reads_hit {H : Heap} (hg : Glob H) (l : List UInt8) (hl : l.length < 2 ^ 60) {a b : Nat} (ha : a < 4) (hb : b < 6) (h : ∀ o < 4, ∀ r < 6, hit l o r = true → o = a ∧ r = b) (h' : hit l a b = true) :
    Ret Tryd.prog 16 [Str l, .agg #[I a, I b], I 0] H (.bool true) := by
  refine Triple.mono (s16 hg l hl a b 0) ?_
  rintro v H' O' - ⟨⟨o, r, e, hp, rfl⟩, rfl⟩
  obtain ⟨rfl, rfl, rfl⟩ := ps_hit ha hb h h' hp
  simp
theorem reads_no {H : Heap} (hg : Glob H) (l : List UInt8) (hl : l.length < 2 ^ 60) (h : ∀ o < 4, ∀ r < 6, hit l o r = false) :
    Ret Tryd.prog 16 [Str l, .agg #[I 0, I 0], I 6] H (.bool true) := by
  refine Triple.mono (s16 hg l hl 0 0 6) ?_
  rintro v H' O' - ⟨⟨o, r, e, hp, rfl⟩, rfl⟩
  obtain ⟨rfl, rfl, rfl⟩ := ps_no h hp
  exact ⟨rfl, rfl⟩
theorem s7 {H : Heap} (hg : Glob H) : Ret Tryd.prog 7 [] H (.bool true) := by
  refine run7 (vs := []) (by kernel_rfl) trivial ?_
  simp only [t7]
  refine fun r0 => chkN_den (chkN_den fun r1 r2 => chkN_den (chkN_den (chkN_den ?_)))
  have nt : ∀ {k1 k2 : Tree} {Q : Value → Heap → Own → Prop} {H : Heap}, k2.den Tryd.prog Q H [] → (Tree.pure [] .not [.bool true] fun v => .br v k1 k2).den Tryd.prog Q H [] :=
    fun h => pure_den _ (not_eq' true) (br_den (fun e => by cases e) (fun _ => h))
  have jb := kc_jb 5 4 (some ⟨r1, 0, none⟩) (some ⟨r2, 0, none⟩) 1 2 1 2
  have jb2 := kc_jb 4 4 (some ⟨r1, 0, none⟩) (some ⟨r2, 0, none⟩) 1 2 1 2
  refine call_retF (.bool true) (fun Hf _ _ => j_true jb (by decide +kernel) Hf) rfl ⟨rfl, trivial⟩ fun H1 l1 _ => nt (chkN_den ?_)
  refine call_ret (j_true jb (by decide +kernel) _) rfl ⟨rfl, trivial⟩ fun H2 l2 => nt (chkN_den ?_)
  refine call_ret (j_true jb (by decide +kernel) _) rfl ⟨rfl, trivial⟩ fun H3 l3 => nt (chkN_den ?_)
  refine call_ret (j_true jb (by decide +kernel) _) rfl ⟨rfl, trivial⟩ fun H4 l4 => nt (chkN_den (chkN_den ?_))
  refine call_ret (j_true jb2 (by decide +kernel) _) rfl ⟨rfl, trivial⟩ fun H5 l5 => nt fun r3 => chkN_den ?_
  have h10 := s10 20 1 10 40 5 3 H5
  rw [if_pos (by decide +kernel)] at h10
  refine call_ret h10 rfl ⟨rfl, rfl, trivial⟩ fun H6 l6 => chkN_den ?_
  have jb3 := kc_jb 4 4 (some ⟨r1, 0, none⟩) (some ⟨r3, 0, none⟩) 1 1 1 1
  refine call_retF (.bool true) (fun Hf _ _ => j_true jb3 (by decide +kernel) Hf) rfl ⟨rfl, trivial⟩ fun H7 l7 _ => ?_
  refine pure_den _ (not_eq' true) (chkV_den (pure_den _ (neq_eq _ _) (chkV_den (pure_den _ (pick_or _ _) (chkV_den (pure_den _ (neq_eq _ _) (chkV_den (pure_den _ (pick_or _ _) ?_))))))))
  have hg7 : Glob H7 := (((((((hg.le l1).le l2).le l3).le l4).le l5).le l6).le l7)
  refine br_den (fun hb => absurd hb (by decide +kernel)) (fun _ => ?_)
  have h13 := s13 hg7 1 0
  rw [show textR 1 0 = .tuple #[Str [], I 2] by unfold textR; rw [if_neg (by decide +kernel)]] at h13
  refine call_ret h13 rfl ⟨rfl, rfl, trivial⟩ fun H8 l8 => ?_
  refine call_ret (reads_hit (hg7.le l8) [100, 114, 97, 119, 32, 116, 105, 109, 101] (by decide) (a := 3) (b := 4) (by decide) (by decide) (by decide +kernel) (by decide +kernel)) rfl ⟨rfl, trivial⟩ fun H9 l9 => br_den (fun _ => ?_) (fun h => by cases h)
  have hg9 := (hg7.le l8).le l9
  refine call_ret (reads_hit hg9 [110, 111, 110, 101] (by decide) (a := 0) (b := 0) (by decide) (by decide) (by decide +kernel) (by decide +kernel)) rfl ⟨rfl, trivial⟩ fun H10 l10 => br_den (fun _ => ?_) (fun h => by cases h)
  refine call_ret (reads_no (hg9.le l10) [110, 111, 110, 101, 32, 99, 97, 112] (by decide) (by decide +kernel)) rfl ⟨rfl, trivial⟩ fun H11 l11 => br_den (fun _ => ?_) (fun h => by cases h)
  refine call_ret (reads_no ((hg9.le l10).le l11) [122, 101, 114, 111] (by decide) (by decide +kernel)) rfl ⟨rfl, trivial⟩ fun H12 l12 => ?_
  refine chkV_den (pure_den _ (str_eql [] []) (chkV_den (pure_den _ (pick_and true _) (chkV_den (pure_den _ (eql_eq 2 2) (chkV_den (pure_den _ (pick_and _ _) (ret_den ⟨rfl, rfl⟩))))))))
/-- ResultPrompts is true. -/
theorem s4 {H : Heap} (hg : Glob H) (a b c d e f : Int) : Ret Tryd.prog 4 [.agg #[I a, I b, I c, I d, I e, I f]] H (.bool true) := by
  refine run4 (vs := [I a, I b, I c, I d, I e, I f]) (by kernel_rfl) ⟨rfl, rfl, rfl, rfl, rfl, rfl, trivial⟩ ?_
  simp only [t4]
  refine fun r0 => chkN_den ?_
  have h10 := s10 a b c d e f H
  cases hv : validB a b c d e f with
  | true =>
    rw [if_pos hv] at h10
    have h11 := fun H => s11 a b c d e f H
    simp only [hv] at h11
    refine call_ret h10 rfl ⟨rfl, rfl, trivial⟩ fun H1 l1 => chkN_den (call_ret (h11 H1) rfl ⟨rfl, trivial⟩ fun H2 l2 => pure_den _ (not_eq' true) (br_den (fun h => by cases h) (fun _ => chkN_den ?_)))
    refine call_ret (s12 a b c d e f hv H2) rfl ⟨rfl, trivial⟩ fun H3 l3 => pure_den _ (eql_eq _ _) (chkV_den (pure_den _ (eql_eq 0 0) (chkV_den (pure_den _ (pick_and _ _) ?_))))
    refine br_den (fun _ => call_ret (s7 (((hg.le l1).le l2).le l3)) rfl ⟨rfl, trivial⟩ fun H4 l4 => ret_den ⟨rfl, rfl⟩) (fun h => by simp at h)
  | false =>
    rw [if_neg (by rw [hv]; simp)] at h10
    have h11 := fun H => s11 a b c d e f H
    simp only [hv] at h11
    refine call_ret h10 rfl ⟨rfl, rfl, trivial⟩ fun H1 l1 => chkN_den (call_ret (h11 H1) rfl ⟨rfl, trivial⟩ fun H2 l2 => pure_den _ (not_eq' false) (br_den (fun _ => ?_) (fun h => by cases h)))
    refine pure_den _ (eql_eq 0 0) (chkV_den (pure_den _ (eql_eq 2 2) (chkV_den (pure_den _ (pick_and _ _) ?_))))
    exact br_den (fun _ => call_ret (s7 ((hg.le l1).le l2)) rfl ⟨rfl, trivial⟩ fun H4 l4 => ret_den ⟨rfl, rfl⟩) (fun h => by simp at h)
end Go.Proofs.YtafnobmndgjeaaaDoor
