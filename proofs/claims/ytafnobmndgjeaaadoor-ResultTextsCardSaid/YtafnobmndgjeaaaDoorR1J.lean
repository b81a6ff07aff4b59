/- The law on texts. -/
import Derived.Test.YtafnobmndgjeaaaDoorR1I
namespace Go.Proofs.YtafnobmndgjeaaaDoor
open Go Go.Sx Go.Lib
set_option maxRecDepth 100000

/-- A game that is nil or zero: its pointer, what is owned. -/
def NoGame (v : Value) (O : Own) : Prop := v = .pointer none ∨ ∃ r cs, v = .pointer (some ⟨r, 0, none⟩) ∧ O = [(r, .cells cs 61 (0, 0))] ∧ (cs.toList.drop 45).take 1 = [.pointer none]
theorem NoGame.one {v : Value} {O : Own} (h : NoGame v O) : v.oneCell' = true := by
  rcases h with rfl | ⟨r, cs, rfl, _⟩ <;> rfl
theorem s35 {v : Value} {O : Own} (h : NoGame v O) (H : Heap) : RetO Tryd.prog 35 [v] H O (.bool true) := by
  refine run35 (vs := [v]) (by kernel_rfl) ⟨h.one, trivial⟩ ?_
  simp only [t35]
  rcases h with rfl | ⟨r, cs, rfl, rfl, hc⟩
  · have e1 : evalPure (.bin .eql .ptr) [.pointer none, .pointer none] = some (.bool true) := rfl
    have off : ∀ {p : Prop}, On [(Value.bool true, false)] → p := fun h => by simp [On] at h
    refine pure_den _ e1 ⟨off, chkV_den ⟨off, chkV_den (chkV_den ⟨[.pointer none], rfl, ⟨rfl, trivial⟩, off, chkV_den (pure_den _ e1 (chkV_den (pure_den _ (pick_or true true) (ret_denO ⟨rfl, rfl⟩))))⟩)⟩⟩
  · have e0 : evalPure (.bin .eql .ptr) [.pointer (some ⟨r, 0, none⟩), .pointer none] = some (.bool false) := rfl
    have e1 : evalPure (.bin .eql .ptr) [.pointer none, .pointer none] = some (.bool true) := rfl
    refine pure_den _ e0 (chkP_den rfl (chkV_den (chkP_den rfl (chkV_den (chkV_den ⟨[.pointer none], rfl, ⟨rfl, trivial⟩, fun _ => .inr ⟨⟨r, 45, none⟩, cs, 61, ?_, rfl, by simp, hc, rfl⟩, chkV_den (pure_den _ e1 (chkV_den (pure_den _ (pick_or false true) (ret_denO ⟨rfl, rfl⟩))))⟩)))))
    show Value.pointer (some ((⟨r, 0, none⟩ : Addr).add 45)) = _
    rw [add_none]
theorem s27 {v : Value} {O : Own} (h : NoGame v O) (H : Heap) : RetO Tryd.prog 27 [v] H O (.pointer none) := by
  refine run27 (vs := [v]) (by kernel_rfl) ⟨h.one, trivial⟩ ?_
  simp only [t27]
  exact call_retO (s35 h H) rfl ⟨rfl, trivial⟩ fun H1 _ => br_den (b := true) (fun _ => ret_denO ⟨rfl, rfl⟩) (fun h => by cases h)
theorem s17 {v : Value} {O : Own} (h : NoGame v O) (H : Heap) : RetO Tryd.prog 17 [v] H O (.tuple #[.agg #[I 0, I 0], I 1]) := by
  refine run17 (vs := [v]) (by kernel_rfl) ⟨h.one, trivial⟩ ?_
  simp only [t17]
  have e1 : evalPure (.bin .eql .ptr) [.pointer none, .pointer none] = some (.bool true) := rfl
  exact fun r0 => call_retO (s27 h H) rfl ⟨rfl, trivial⟩ fun H1 _ => pure_den _ e1 (br_den (fun _ => chkN_den (chkN_den (ret_denO ⟨rfl, rfl⟩))) (fun h => by cases h))
theorem hit_uniq {l : List UInt8} {a b a' b' : Nat} (ha : a < 4) (hb : b < 6) (ha' : a' < 4) (hb' : b' < 6) (h : hit l a b = true) (h' : hit l a' b' = true) : a' = a ∧ b' = b := by
  simp only [hit, Bool.and_eq_true, beq_iff_eq] at h h'
  obtain ⟨h1, rfl⟩ := h
  obtain ⟨h2, h3⟩ := h'
  obtain ⟨c1, c2⟩ := cut_text a ha b hb h1
  obtain ⟨d1, d2⟩ := cut_text a' ha' b' hb' h2
  rw [h3] at d1 d2
  exact ⟨by omega, by omega⟩
/-- The end of the law: no match has no result. -/
def tail5 : Tree :=
  .newbox fun r2 =>
  .newbox fun r3 =>
  .chk (.eqN r3 r3) <|
  .call false 17 [(.pointer none)] [] [] (.tup [some 2, none]) fun l19 _ =>
  .newbox fun r4 =>
  .chk (.eqN r4 r4) <|
  .chk (.eqN r4 r4) <|
  .raw [] (.eqv .neq 40 false) [(.agg #[(g l19 0), (g l19 1)]), (.agg #[(.int .i64 0), (.int .i64 0)])] fun v20 =>
  .chk (.eqV v20 v20) <|
  .pure [] (.bin .neq .int) [(g l19 2), (.int .i64 1)] fun v21 =>
  .chk (.eqV v20 v20) <|
  .pure [] .pick [v20, (.bool true), v21] fun v22 =>
  .br v22 (
    .ret (.bool false) []) (
    .chk (.eqN r3 r3) <|
    .call false 17 [(.pointer (some ⟨r2, 0, none⟩))] [] [⟨r2, 61, [(.int .i64 0), (.int .i64 0), (.int .i64 0), (.int .i64 0), (.int .i64 0), (.int .i64 0), (.slice none 0 0), (.slice none 0 0), (.int .i64 0), (.int .i64 0), (.int .i64 0), (.int .i64 0), (.int .i64 0), (.slice none 0 0), (.slice none 0 0), (.slice none 0 0), (.slice none 0 0), (.bool false), (.bool false), (.bool false), (.int .i64 0), (.int .i64 0), (.int .i64 0), (.int .i64 0), (.int .i64 0), (.int .i64 0), (.int .i64 0), (.slice none 0 0), (.slice none 0 0), (.slice none 0 0), (.slice none 0 0), (.bool false), (.bool false), (.bool false), (.int .i64 0), (.int .i64 0), (.slice none 0 0), (.slice none 0 0), (.slice none 0 0), (.slice none 0 0), (.int .i64 0), (.int .i64 0), (.int .i64 0), (.int .i64 0), (.int .i64 0), (.pointer none), (.bool false), (.bool false), (.int .i64 0)]⟩] (.tup [some 2, none]) fun l23 c23 =>
    .newbox fun r5 =>
    .chk (.eqN r5 r5) <|
    .chk (.eqN r5 r5) <|
    .raw [] (.eqv .neq 40 false) [(.agg #[(g l23 0), (g l23 1)]), (.agg #[(.int .i64 0), (.int .i64 0)])] fun v24 =>
    .chk (.eqV v24 v24) <|
    .pure [] (.bin .neq .int) [(g l23 2), (.int .i64 1)] fun v25 =>
    .chk (.eqV v24 v24) <|
    .pure [] .pick [v24, (.bool true), v25] fun v26 =>
    .br v26 (
      .ret (.bool false) []) (
      .call false 7 [] [] [] .one fun l27 _ =>
      .ret (g l27 0) []))
theorem neq00 (w : World) : ((PrimOp.eqv .neq 40 false).sem [.agg #[I 0, I 0], .agg #[I 0, I 0]]).run Tryd.prog w = .ok (.value (.bool false)) w := eqv40 .neq (.inr rfl) 0 0 0 0 w
theorem tail5_den {H : Heap} (hg : Glob H) : tail5.den Tryd.prog (fun v _ O' => v = .bool true ∧ O' = []) H [] := by
  unfold tail5
  refine fun r2 r3 => chkN_den (call_ret (vs := [I 0, I 0, I 1]) (s17 (.inl rfl) H) rfl ⟨rfl, rfl, rfl, trivial⟩ fun H1 l1 => fun r4 => chkN_den (chkN_den ⟨_, fun _ => neq00, rfl, chkV_den (pure_den _ (neq_eq 1 1) (chkV_den (pure_den _ (pick_or _ _) (br_den (fun h => by simp at h) (fun _ => chkN_den ?_)))))⟩))
  refine call_own (vs := [I 0, I 0, I 1]) (s17 (.inr ⟨r2, _, rfl, rfl, rfl⟩) H1) rfl ⟨rfl, rfl, rfl, trivial⟩ ⟨rfl, by simp [Ones, Value.oneCell'], trivial⟩ fun H2 l2 => ?_
  refine fun r5 => chkN_den (chkN_den ⟨_, fun _ => neq00, rfl, chkV_den (pure_den _ (neq_eq 1 1) (chkV_den (pure_den _ (pick_or _ _) (br_den (fun h => by simp at h) (fun _ => ?_)))))⟩)
  exact call_ret (s7 ((hg.le l1).le l2)) rfl ⟨rfl, trivial⟩ fun H3 _ => ret_den ⟨rfl, rfl⟩
/-- ResultTexts is true. -/
theorem s5 {H : Heap} (hg : Glob H) (o r : Int) (l : List UInt8) : Ret Tryd.prog 5 [.agg #[I o, I r], Str l] H (.bool true) := by
  refine run5 (vs := [I o, I r, Str l]) (by kernel_rfl) ⟨rfl, rfl, rfl, trivial⟩ ?_
  simp only [t5]
  refine fun r0 => pure_den _ (str_len l) (pure_den _ (gtr_eq _ _) (br_den (fun _ => call_ret (s7 hg) rfl ⟨rfl, trivial⟩ fun H1 _ => ret_den ⟨rfl, rfl⟩) (fun hb => chkN_den ?_)))
  have hl : l.length ≤ 60 := by have := of_decide_eq_false hb; omega
  obtain ⟨t, ok, h13, h14⟩ : ∃ (t : List UInt8) (ok : Bool), Ret Tryd.prog 13 [.agg #[I o, I r]] H (.tuple #[Str t, I (if ok then 0 else 2)]) ∧ ∀ H, Ret Tryd.prog 14 [.agg #[I o, I r]] H (.tuple #[Str t, .bool ok]) := by
    have h13 := s13 hg o r
    have h14 := fun H => s14 o r H
    unfold textR at h13; unfold text2R at h14
    cases hok : textOk o r with
    | true => rw [hok] at h13 h14; exact ⟨_, true, h13, h14⟩
    | false => rw [hok] at h13 h14; exact ⟨_, false, h13, h14⟩
  refine call_ret h13 rfl ⟨rfl, rfl, trivial⟩ fun H1 l1 => chkN_den (call_ret (h14 H1) rfl ⟨rfl, rfl, trivial⟩ fun H2 l2 => ?_)
  refine pure_den _ (str_neq t t) (chkV_den (pure_den _ (eql_eq _ _) (chkV_den (chkV_den (pure_den _ (bneq_eq _ _) (chkV_den (pure_den _ (pick_or _ _) (chkV_den ?_))))))))
  refine pure_den _ (not_eq' ok) (chkV_den (chkV_den (chkV_den (pure_den _ (neq_eq _ _) (chkV_den (chkV_den (chkV_den (pure_den _ (pick_and _ _) (chkV_den (pure_den _ (pick_or _ _) ?_))))))))))
  refine br_den (fun hb => by cases ok <;> simp at hb) (fun _ => ?_)
  have hg2 := (hg.le l1).le l2
  refine call_gives (s15 l H2) ?_
  rintro v H3 hpj l3
  have hg3 := hg2.le l3
  rcases hpj with ⟨a, b, ha, hb, hh, rfl⟩ | ⟨hno, rfl⟩
  · refine ⟨[I a, I b, .bool true], rfl, ⟨rfl, rfl, rfl, trivial⟩, fun r1 => chkN_den (br_den (b := true) (fun _ => chkN_den ?_) (fun h => by cases h))⟩
    refine call_ret (reads_hit hg3 l (by omega) ha hb (fun a' ha' b' hb' h' => hit_uniq ha hb ha' hb' hh h') hh) rfl ⟨rfl, trivial⟩ fun H4 l4 => pure_den _ (not_eq' true) (br_den (fun h => by cases h) (fun _ => pure_den _ (not_eq' true) (br_den (fun h => by cases h) (fun _ => tail5_den (hg3.le l4)))))
  · refine ⟨[I 0, I 0, .bool false], rfl, ⟨rfl, rfl, rfl, trivial⟩, fun r1 => chkN_den (br_den (b := false) (fun h => by cases h) (fun _ => ?_))⟩
    refine pure_den _ (not_eq' false) (br_den (fun _ => ?_) (fun h => by cases h))
    refine call_ret (reads_no hg3 l (by omega) hno) rfl ⟨rfl, trivial⟩ fun H4 l4 => pure_den _ (not_eq' true) (br_den (fun h => by cases h) (fun _ => tail5_den (hg3.le l4)))
end Go.Proofs.YtafnobmndgjeaaaDoor
