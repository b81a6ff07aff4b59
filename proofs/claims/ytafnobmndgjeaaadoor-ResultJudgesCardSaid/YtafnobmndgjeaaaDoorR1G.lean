/- Parse, the reference's Text and Parse, reads. -/
import Derived.Test.YtafnobmndgjeaaaDoorR1F
namespace Go.Proofs.YtafnobmndgjeaaaDoor
open Go Go.Sx Go.Lib
set_option maxRecDepth 100000

theorem reas2_get {o : Nat} (h : o < 6) : reas2L[o]? = some (reas2L.getD o []) := by
  rcases o with _ | _ | _ | _ | _ | _ | o <;> first | rfl | omega
theorem textN_eq : ∀ o < 4, ∀ r < 6, textOk (o : Nat) (r : Nat) = true → outsL.getD o [] ++ reas2L.getD r [] = textN o r := by decide +kernel
theorem textN_len : ∀ o < 4, ∀ r < 6, (textN o r).length ≤ 12 := by decide +kernel
theorem cut_text : ∀ o < 4, ∀ r < 6, textOk (o : Nat) (r : Nat) = true → idxF outsL (cutL (textN o r) 32).1 0 = (o : Nat) ∧ idxF reasL (cutL (textN o r) 32).2.1 0 = (r : Nat) := by decide +kernel
theorem textOk_nat {o r : Int} (h : textOk o r = true) : ∃ a b : Nat, o = a ∧ r = b ∧ a < 4 ∧ b < 6 := by
  simp only [textOk, Bool.not_eq_true', Bool.or_eq_false_iff, decide_eq_false_iff_not] at h
  exact ⟨o.toNat, r.toNat, by omega, by omega, by omega, by omega⟩
def text2R (o r : Int) : Value := if textOk o r then .tuple #[Str (textN o.toNat r.toNat), .bool true] else .tuple #[Str [], .bool false]
theorem s14 (o r : Int) (H : Heap) : Ret Tryd.prog 14 [.agg #[I o, I r]] H (text2R o r) := by
  refine run14 (vs := [I o, I r]) (by kernel_rfl) ⟨rfl, rfl, trivial⟩ ?_
  simp only [t14]
  refine fun r0 => ?_
  repeat (first | refine chkN_den ?_ | refine chkV_den ?_ | refine pure_den _ (lss_eq _ _) ?_ | refine pure_den _ (gtr_eq _ _) ?_ | refine pure_den _ (eql_eq _ _) ?_ | refine pure_den _ (bneq_eq _ _) ?_ | refine pure_den _ (pick_or _ _) ?_)
  have hT : ((((decide (o < 0) || decide (o > 3)) || decide (r < 0)) || decide (r > 5)) || !((o == 0) == (r == 0))) = !textOk o r := by
    have e1 : decide (o > 3) = decide (o ≥ 4) := by rw [decide_eq_decide]; omega
    have e2 : decide (r > 5) = decide (r ≥ 6) := by rw [decide_eq_decide]; omega
    rw [e1, e2]; simp only [textOk, Bool.not_not]
  rw [hT]
  refine br_den (fun hb => ret_den ⟨?_, rfl⟩) (fun hb => ?_)
  · have hno : textOk o r = false := by simpa using hb
    unfold text2R; rw [hno]; rfl
  · have hok : textOk o r = true := by simpa using hb
    obtain ⟨o, r, rfl, rfl, ho, hr⟩ := textOk_nat hok
    refine call_gives (s25 H) ?_
    rintro v H1 ⟨s1, s2, rfl, h1, h2⟩ hle
    obtain ⟨a, g1, g2, g3, g4⟩ := h1.idx (k := .i64) (i := o) (r := [Str (outsL.getD o [])]) (by rw [List.getElem?_map, outs_get ho]; rfl)
    obtain ⟨b, k1, k2, k3, k4⟩ := h2.idx (k := .i64) (i := r) (r := [Str (reas2L.getD r [])]) (by rw [List.getElem?_map, reas2_get hr]; rfl)
    have he := textN_eq o ho r hr hok
    have hl := textN_len o ho r hr
    refine ⟨_, rfl, ⟨h1.one, h2.one, trivial⟩, chkN_den (pure_den _ g1 (load_den g2 g3 g4 (chkN_den (pure_den _ k1 (load_den k2 k3 k4 (pure_den _ (str_add ?_) (ret_den ⟨?_, rfl⟩)))))))⟩
    · rw [← List.length_append, he]; omega
    · show Value.tuple #[Str (outsL.getD o [] ++ reas2L.getD r []), .bool true] = _
      rw [he]; unfold text2R; rw [hok]; rfl
/-- The text says this result. -/
def hit (l : List UInt8) (o r : Nat) : Bool := textOk o r && textN o r == l
def NoHit (l : List UInt8) : Prop := ∀ o < 4, ∀ r < 6, hit l o r = false
/-- What the reference's Parse returns. -/
def PJ (l : List UInt8) (v : Value) : Prop := (∃ o r : Nat, o < 4 ∧ r < 6 ∧ hit l o r = true ∧ v = .tuple #[.agg #[I o, I r], .bool true]) ∨ NoHit l ∧ v = .tuple #[.agg #[I 0, I 0], .bool false]
theorem leq_nat (i n : Nat) : evalPure (.bin .leq .int) [I i, I n] = some (.bool (decide (i < n + 1))) := by
  rw [leq_eq]; congr 2; rw [decide_eq_decide]; omega
theorem s15 (l : List UInt8) (H : Heap) : Gives Tryd.prog 15 [Str l] H fun v _ => PJ l v := by
  refine run15 (vs := [Str l]) (by kernel_rfl) ⟨rfl, trivial⟩ ?_
  simp only [t15]
  refine fun r0 => count_den 4 (fun o H' O' => O' = [] ∧ ∀ o' < o, ∀ r < 6, hit l o' r = false) ⟨rfl, by omega⟩ ?_
  rintro o H' O' ho - ⟨rfl, h1⟩
  refine pure_den _ (leq_nat o 3) (br_den (fun hb => ?_) (fun hb => ?_))
  · have ho : o < 4 := by simpa using hb
    refine count_den 6 (fun r H' O' => O' = [] ∧ ∀ r' < r, hit l o r' = false) ⟨rfl, by omega⟩ ?_
    rintro r H2 O2 hr - ⟨rfl, h2⟩
    refine pure_den _ (leq_nat r 5) (br_den (fun hb => ?_) (fun hb => ?_))
    · have hr : r < 6 := by simpa using hb
      refine fun r1 => chkN_den (chkN_den ?_)
      have hgo : ∀ (u : List UInt8) (t : Bool) (H3 : Heap), (t && (u == l)) = hit l o r →
          Tree.den Tryd.prog (fun v _ O' => PJ l v ∧ O' = []) (.chk (.eqV (.bool t) (.bool t)) <| .chk (.eqV (.bool t) (.bool t)) <| .pure [] (.bin .eql .str) [Str u, Str l] fun v5 => .chk (.eqV (.bool t) (.bool t)) <|
            .pure [] .pick [.bool t, v5, .bool false] fun v6 => .br v6 (.chk (.eqN r1 r1) <| .chk (.eqN r0 r0) <| .chk (.eqN r0 r0) <| .ret (.tuple #[.agg #[I o, I r], .bool true]) [])
              (.pure [] (.bin .add .int) [I r, I 1] fun v7 => .cont 7 (Back (fun vs H O => ∃ i : Nat, vs = [.int .i64 i] ∧ i ≤ 6 ∧ O = [] ∧ ∀ r' < i, hit l o r' = false) (fun vs _ _ => match g vs 0 with | .int _ k => 6 - k.toNat | _ => 0) (6 - r)) [v7]
                [([Str l], [Str l]), ([.pointer (some ⟨r0, 0, none⟩)], [.pointer (some ⟨r0, 0, none⟩)]), ([I o], [I o]), ([.pointer (some ⟨r0, 0, none⟩), I 0, I 0], [.pointer (some ⟨r0, 0, none⟩), I 0, I 0])])) H3 [] := by
        intro u t H3 ht
        refine chkV_den (chkV_den (pure_den _ (str_eql _ _) (chkV_den (pure_den _ (pick_and _ _) ?_))))
        rw [ht]
        refine br_den (fun hb => chkN_den (chkN_den (chkN_den (ret_den ⟨.inl ⟨o, r, ho, hr, hb, rfl⟩, rfl⟩)))) (fun hb => pure_den _ (add_one (by omega)) (count_cont (by simp [Eqs]) hr ⟨rfl, fun r' h' => ?_⟩))
        rcases Nat.lt_succ_iff_lt_or_eq.1 h' with h' | rfl
        · exact h2 r' h'
        · exact hb
      have hs := s14 o r H2
      unfold text2R at hs
      cases hok : textOk o r with
      | true =>
        rw [hok] at hs
        exact call_ret hs rfl ⟨rfl, rfl, trivial⟩ fun H3 _ => hgo (textN o r) true H3 (by simp only [hit, hok])
      | false =>
        rw [hok] at hs
        exact call_ret hs rfl ⟨rfl, rfl, trivial⟩ fun H3 _ => hgo [] false H3 (by simp only [hit, hok, Bool.false_and])
    · have hr : r = 6 := by have : ¬ r < 5 + 1 := of_decide_eq_false hb; omega
      refine pure_den _ (add_one (by omega)) (count_cont (by simp [Eqs]) ho ⟨rfl, fun o' h' => ?_⟩)
      rcases Nat.lt_succ_iff_lt_or_eq.1 h' with h' | rfl
      · exact h1 o' h'
      · exact fun r' hr' => h2 r' (by omega)
  · have ho : o = 4 := by have : ¬ o < 3 + 1 := of_decide_eq_false hb; omega
    subst ho
    exact chkN_den (chkN_den (ret_den ⟨.inr ⟨h1, rfl⟩, rfl⟩))
/-- What Parse returns. -/
def PS (l : List UInt8) (o r e : Int) : Prop := (∃ a b : Nat, a < 4 ∧ b < 6 ∧ hit l a b = true ∧ o = a ∧ r = b ∧ e = 0) ∨ NoHit l ∧ o = 0 ∧ r = 0 ∧ e = 6
theorem s26 {H : Heap} (hg : Glob H) (l : List UInt8) (hl : l.length < 2 ^ 60) : Gives Tryd.prog 26 [Str l] H fun v _ => ∃ o r e, PS l o r e ∧ v = .tuple #[.agg #[I o, I r], I e] := by
  refine run26 (vs := [Str l]) (by kernel_rfl) ⟨rfl, trivial⟩ ?_
  simp only [t26]
  refine fun r0 => call_ret (vs := [Str (cutL l 32).1, Str (cutL l 32).2.1, .bool (cutL l 32).2.2]) (s33 l 32 hl H) rfl ⟨rfl, rfl, rfl, trivial⟩ fun H1 l1 => ?_
  dsimp only
  have e0 : g [Str (cutL l 32).1, Str (cutL l 32).2.1, .bool (cutL l 32).2.2] 0 = Str (cutL l 32).1 := rfl
  have e1 : g [Str (cutL l 32).1, Str (cutL l 32).2.1, .bool (cutL l 32).2.2] 1 = Str (cutL l 32).2.1 := rfl
  rw [e0, e1]
  refine call_ret (s34 (Sl.of_arr (n := 4) (hg.le l1).outs rfl (by omega)) _) rfl ⟨rfl, trivial⟩ fun H2 l2 => ?_
  refine call_ret (s34 (Sl.of_arr (n := 6) ((hg.le l1).le l2).reas rfl (by omega)) _) rfl ⟨rfl, trivial⟩ fun H3 l3 => fun r1 => chkN_den (chkN_den ?_)
  generalize hO : idxF outsL (cutL l 32).1 0 = O
  generalize hR : idxF reasL (cutL l 32).2.1 0 = R
  have hs := s13 (((hg.le l1).le l2).le l3) O R
  have hno : ¬ (textOk O R = true ∧ textN O.toNat R.toNat = l) → NoHit l := by
    intro hn a ha b hb
    cases hh : hit l a b with
    | false => rfl
    | true =>
      simp only [hit, Bool.and_eq_true, beq_iff_eq] at hh
      obtain ⟨h1, rfl⟩ := hh
      obtain ⟨c1, c2⟩ := cut_text a ha b hb h1
      rw [hO] at c1; rw [hR] at c2
      subst c1; subst c2
      exact absurd ⟨h1, rfl⟩ hn
  unfold textR at hs
  cases hok : textOk O R with
  | true =>
    rw [hok] at hs
    refine call_ret hs rfl ⟨rfl, rfl, trivial⟩ fun H4 l4 => ?_
    refine pure_den _ (neq_eq 0 0) (chkV_den (chkV_den (pure_den _ (str_neq _ _) (chkV_den (pure_den _ (pick_or _ _) ?_)))))
    refine br_den (fun hb => chkN_den (chkN_den (ret_den ⟨⟨0, 0, 6, .inr ⟨hno ?_, rfl, rfl, rfl⟩, rfl⟩, rfl⟩))) (fun hb => chkN_den (chkN_den (chkN_den (ret_den ⟨⟨O, R, 0, .inl ?_, rfl⟩, rfl⟩))))
    · rintro ⟨_, h2⟩; simp [h2] at hb
    · obtain ⟨a, b, rfl, rfl, ha, hb'⟩ := textOk_nat hok
      refine ⟨a, b, ha, hb', ?_, rfl, rfl, rfl⟩
      have : textN a b = l := by simpa using hb
      simp only [hit, hok, this, Bool.true_and, beq_self_eq_true]
  | false =>
    rw [hok] at hs
    refine call_ret hs rfl ⟨rfl, rfl, trivial⟩ fun H4 l4 => ?_
    refine pure_den _ (neq_eq 2 0) (chkV_den (chkV_den (pure_den _ (str_neq _ _) (chkV_den (pure_den _ (pick_or _ _) ?_)))))
    refine br_den (b := true) (fun hb => chkN_den (chkN_den (ret_den ⟨⟨0, 0, 6, .inr ⟨hno ?_, rfl, rfl, rfl⟩, rfl⟩, rfl⟩))) (fun hb => by cases hb)
    rintro ⟨h1, _⟩; rw [hok] at h1; cases h1
theorem s16 {H : Heap} (hg : Glob H) (l : List UInt8) (hl : l.length < 2 ^ 60) (o r e : Int) :
    Gives Tryd.prog 16 [Str l, .agg #[I o, I r], I e] H fun v _ => ∃ o' r' e', PS l o' r' e' ∧ v = .bool ((o' == o && r' == r) && e' == e) := by
  refine run16 (vs := [Str l, I o, I r, I e]) (by kernel_rfl) ⟨rfl, rfl, rfl, rfl, trivial⟩ ?_
  simp only [t16]
  refine fun r0 => call_gives (s26 hg l hl) ?_
  rintro v H1 ⟨o', r', e', hps, rfl⟩ hle
  refine ⟨_, rfl, ⟨rfl, rfl, rfl, trivial⟩, fun r1 => chkN_den (chkN_den (chkN_den ?_))⟩
  exact ⟨_, fun _ => eqv40 .eql (.inl rfl) o' r' o r, rfl, chkV_den (chkV_den (pure_den _ (eql_eq _ _) (chkV_den (pure_den _ (pick_and _ _) (ret_den ⟨⟨o', r', e', hps, rfl⟩, rfl⟩)))))⟩
end Go.Proofs.YtafnobmndgjeaaaDoor
