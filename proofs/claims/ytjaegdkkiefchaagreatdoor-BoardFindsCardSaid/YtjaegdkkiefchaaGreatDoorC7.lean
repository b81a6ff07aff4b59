/- Attackers and blocks: the program's check; which boards are valid. -/
import Derived.Test.YtjaegdkkiefchaaGreatDoorC6
namespace Go.Proofs.YtjaegdkkiefchaaGreatDoor
open Go Go.Sx
set_option maxRecDepth 100000
set_option maxHeartbeats 1000000

theorem zeroBo : ∀ w, (zeroValue Ty_bool).run PP w = .ok (.bool false) w := by
  intro w
  have : (PP.info? Ty_bool).bind (·.zero) = some (.bool false) := by kernel_rfl
  simp only [Option.bind_eq_some_iff] at this
  obtain ⟨i, hi, hz⟩ := this
  simp [zeroValue, typeInfo, hi, hz]
theorem mapIB : PP.underlying Ty_map_int_bool = some (.map Ty_int Ty_bool) := by kernel_rfl
theorem neg_eq (a : Int) : evalPure .neg [iV a] = some (iV (IntKind.i64.wrap (0 - a))) := rfl

theorem fights_den {lab1 key1 lab2 key2 : Nat} {fo ft av bv : Value} {own other att : List Int} {bl : List Bl} {H : Heap} {O : Own} {Q : Value → Heap → Own → Prop} {r0 : Nat}
    {eqs1 : List Value → Value → List (List Value × List Value)}
    {eqs2 : List Value → Value → List (List Value × List Value)}
    (ho : RSl H O 1 fo (ints own)) (ht : RSl H O 1 ft (ints other)) (ha : RSl H O 1 av (ints att)) (hb : RSl H O 2 bv (bl.map Bl.row)) (hpo : ∀ x ∈ own, 0 < x) (hpt : ∀ x ∈ other, 0 < x ∧ x ≤ 500)
    (heq1 : ∀ a b, Eqs (eqs1 a b)) (heq2 : ∀ a b, Eqs (eqs2 a b))
    (hQ : ∀ H', Heap.le H H' → Q (.bool (fightsB own other att bl)) H' O) :
    (Tree.prim (.makeMap Ty_map_int_bool false) [] [] [] .one fun l1 _ =>
      .chk (.eqN r0 r0) <|
      .pure [] .len [av] fun v2 =>
      .loop lab1 key1 [(.int .i64 0)] fun C23 l3 =>
        .pure [] (.bin .lss .int) [(g l3 0), v2] fun v4 =>
        .br v4 (
          .pure [] (.idx 1) [av, (g l3 0)] fun v5 =>
          .load [] v5 1 fun l6 =>
          .prim (.lookup Ty_map_int_bool false) [(g l1 0), (g l6 0)] [] [] .one fun l7 _ =>
          .br (g l7 0) (
            .ret (.bool false) []) (
            .call false F_slices_Contains_int_int [fo, (g l6 0)] [] [] .one fun l8 _ =>
            .pure [] .not [(g l8 0)] fun v9 =>
            .br v9 (
              .ret (.bool false) []) (
              .prim (.mapUpdate Ty_map_int_bool) [(g l1 0), (g l6 0), (.bool true)] [] [] .one fun l10 _ =>
              .pure [] (.bin .add .int) [(g l3 0), (.int .i64 1)] fun v11 =>
              .cont lab1 C23 [v11] (eqs1 l1 v2)))) (
          .chk (.eqN r0 r0) <|
          .pure [] .len [bv] fun v12 =>
          .loop lab2 key2 [(.int .i64 0)] fun C29 l13 =>
            .pure [] (.bin .lss .int) [(g l13 0), v12] fun v14 =>
            .br v14 (
              .pure [] (.idx 2) [bv, (g l13 0)] fun v15 =>
              .load [] v15 2 fun l16 =>
              .newbox fun r1 =>
              .chk (.eqN r1 r1) <|
              .chk (.eqN r1 r1) <|
              .prim (.lookup Ty_map_int_bool false) [(g l1 0), (g l16 1)] [] [] .one fun l17 _ =>
              .pure [] .not [(g l17 0)] fun v18 =>
              .br v18 (
                .ret (.bool false) []) (
                .chk (.eqN r1 r1) <|
                .pure [] .neg [(g l16 0)] fun v19 =>
                .prim (.lookup Ty_map_int_bool false) [(g l1 0), v19] [] [] .one fun l20 _ =>
                .br (g l20 0) (
                  .ret (.bool false) []) (
                  .chk (.eqN r0 r0) <|
                  .chk (.eqN r1 r1) <|
                  .call false F_slices_Contains_int_int [av, (g l16 1)] [] [] .one fun l21 _ =>
                  .pure [] .not [(g l21 0)] fun v22 =>
                  .br v22 (
                    .ret (.bool false) []) (
                    .chk (.eqN r1 r1) <|
                    .call false F_slices_Contains_int_int [ft, (g l16 0)] [] [] .one fun l23 _ =>
                    .pure [] .not [(g l23 0)] fun v24 =>
                    .br v24 (
                      .ret (.bool false) []) (
                      .chk (.eqN r1 r1) <|
                      .chk (.eqN r1 r1) <|
                      .pure [] .neg [(g l16 0)] fun v25 =>
                      .prim (.mapUpdate Ty_map_int_bool) [(g l1 0), (g l16 1), (.bool false)] [] [] .one fun l26 _ =>
                      .prim (.mapUpdate Ty_map_int_bool) [(g l1 0), v25, (.bool true)] [] [] .one fun l27 _ =>
                      .pure [] (.bin .add .int) [(g l13 0), (.int .i64 1)] fun v28 =>
                      .cont lab2 C29 [v28] (eqs2 l1 v12)))))) (
              .ret (.bool true) []))).den PP Q H O := by
  have la := ha.len
  have lb := hb.len
  rw [ints, List.length_map] at la
  rw [List.length_map] at lb
  refine call_make (kd := .i64) fun mv Om0 hm0 => chkN_den (pure_den _ la ?_)
  refine count_den att.length (fun i H' O' => Heap.le H H' ∧ ∃ m Om, O'.Perm (Om ++ O) ∧ OMap .i64 mv m Om ∧ (∀ k, (lookM m k).getD (.bool false) = .bool (seenP (att.take i) [] [] k)) ∧ (att.take i).Nodup ∧ ∀ x ∈ att.take i, x ∈ own)
    ⟨Heap.le_refl H, [], Om0, List.Perm.refl _, hm0, fun k => by simp [lookM, seenP], by simp, by simp⟩ ?_
  rintro i H1 O1 hi - ⟨l1, m, Om, hO, hm, hs, hnd, hall⟩
  have hsubO : ∀ p ∈ O, p ∈ O1 := fun p hp => hO.mem_iff.2 (List.mem_append_right Om hp)
  have hsubM : ∀ p ∈ Om, p ∈ O1 := fun p hp => hO.mem_iff.2 (List.mem_append_left O hp)
  refine pure_den _ (lss_eq _ _) (br_den (fun hlt => ?_) (fun hge => ?_))
  · have hlt : i < att.length := by simpa using hlt
    obtain ⟨a, h1, h2, _, h3, h4⟩ := ((ha.le l1).own hsubO).idx .i64 i [iV att[i]] (by simp [ints, hlt])
    refine pure_den _ h1 (load_denR h2 h3 h4 ?_)
    refine call_lookup1 mapIB intI zeroBo hm hsubM att[i] (by show ((lookM m att[i]).getD (.bool false)).oneCell' = true; rw [hs]; rfl) ?_
    show Tree.den PP Q (.br ((lookM m att[i]).getD (.bool false)) _ _) H1 O1
    rw [hs]
    have etk : att.take (i + 1) = att.take i ++ [att[i]] := by rw [List.take_add_one, List.getElem?_eq_getElem hlt]; rfl
    refine br_den (fun hin => ?_) (fun hnin => ?_)
    · refine ret_to hO ?_
      have : ¬ att.Nodup := by
        intro hn
        have hin : att[i] ∈ att.take i := by simpa [seenP] using hin
        have hn2 : (att.take (i + 1)).Nodup := hn.sublist (List.take_sublist _ _)
        rw [etk, List.nodup_append] at hn2
        exact hn2.2.2 _ hin _ (by simp) rfl
      have := hQ H1 l1
      simpa [fightsB, ‹¬ att.Nodup›] using this
    · refine call_retO (c_Contains_int ((ho.le l1).own hsubO) att[i]) rfl ⟨rfl, trivial⟩ fun H2 l2 => pure_den _ (not_eq' _) (br_den (fun hc => ?_) (fun hc => ?_))
      · refine ret_to hO ?_
        have hf : (att.all fun x => own.contains x) = false := by
          rw [Bool.eq_false_iff]
          intro hh
          have := List.all_eq_true.1 hh att[i] (List.getElem_mem hlt)
          rw [this] at hc; cases hc
        have := hQ H2 (Heap.le_trans l1 l2)
        simpa only [fightsB, hf, Bool.false_and, Bool.and_false] using this
      · refine call_update mapIB intI hm hO att[i] (.bool true) ?_
        intro w Om2 hm2 _
        refine pure_den _ (add_one (by have := ha.lenB; simp [ints] at this; omega)) (count_cont (heq1 _ _) hlt ⟨Heap.le_trans l1 l2, _, Om2, List.Perm.refl _, hm2, ?_, ?_, ?_⟩)
        · intro k
          rw [lookM_upd]
          by_cases hk : k = att[i]
          · rw [if_pos hk, etk]
            have : seenP (att.take i ++ [att[i]]) [] [] k = true := by simp only [seenP, decide_eq_true_eq, List.mem_append, List.mem_singleton]; exact .inl ⟨.inr hk, by simp⟩
            rw [this]; rfl
          · rw [if_neg hk, hs, etk]
            congr 1
            simp only [seenP, List.mem_append, List.mem_singleton, hk, or_false]
        · rw [etk, List.nodup_append]
          refine ⟨hnd, by simp, ?_⟩
          intro x hx y hy
          simp only [List.mem_singleton] at hy
          subst hy
          rintro rfl
          simp [seenP] at hnin
          exact hnin hx
        · rw [etk]
          intro x hx
          rcases List.mem_append.1 hx with hx | hx
          · exact hall x hx
          · simp only [List.mem_singleton] at hx
            subst hx
            simpa using hc
  · have hie : i = att.length := by
      have : ¬ ((i : Int) < (att.length : Int)) := by simpa using hge
      omega
    subst hie
    rw [List.take_length] at hs hnd hall
    have hfb : fightsB own other att bl = blkGo att other [] [] bl := by
      have : (att.all fun x => own.contains x) = true := by
        rw [List.all_eq_true]
        intro x hx
        simpa using hall x hx
      simp only [fightsB, hnd, decide_true, this, Bool.true_and]
    refine chkN_den (pure_den _ lb ?_)
    refine count_den bl.length (fun i H' O' => Heap.le H1 H' ∧ ∃ m Om ua ub, O'.Perm (Om ++ O) ∧ OMap .i64 mv m Om ∧ (∀ k, (lookM m k).getD (.bool false) = .bool (seenP att ua ub k)) ∧ (∀ x ∈ ub, 0 < x) ∧ blkGo att other [] [] bl = blkGo att other ua ub (bl.drop i))
      ⟨Heap.le_refl H1, m, Om, [], [], hO, hm, hs, by simp, by simp⟩ ?_
    rintro i H2 O2 hi - ⟨l2, m, Om, ua, ub, hO, hm, hs, hub, hgo⟩
    have l2' := Heap.le_trans l1 l2
    have hsubO : ∀ p ∈ O, p ∈ O2 := fun p hp => hO.mem_iff.2 (List.mem_append_right Om hp)
    have hsubM : ∀ p ∈ Om, p ∈ O2 := fun p hp => hO.mem_iff.2 (List.mem_append_left O hp)
    refine pure_den _ (lss_eq _ _) (br_den (fun hlt => ?_) (fun hge => ?_))
    · have hlt : i < bl.length := by simpa using hlt
      obtain ⟨a, h1, h2, _, h3, h4⟩ := ((hb.le l2').own hsubO).idx .i64 i (Bl.row bl[i]) (by simp [hlt])
      rw [List.drop_eq_getElem_cons hlt, blkGo] at hgo
      generalize bl[i] = x at hgo h2 h3 h4
      have hone : ∀ k, ((lookM m k).getD (.bool false)).oneCell' = true := fun k => by rw [hs]; rfl
      have fin : ∀ H', Heap.le H H' → ((!ua.contains x.attacker && att.contains x.attacker && (!ub.contains x.blocker && other.contains x.blocker)) = false) → Q (.bool false) H' O := by
        intro H' hl hf
        have := hQ H' hl
        rwa [hfb, hgo, hf, Bool.false_and] at this
      refine pure_den _ h1 (load_denR h2 h3 h4 (newbox_den fun r1 => chkN_den (chkN_den ?_)))
      refine call_lookup1 mapIB intI zeroBo hm hsubM x.attacker (hone _) ?_
      show Tree.den PP Q (.pure [] .not [(lookM m x.attacker).getD (.bool false)] _) H2 O2
      rw [hs]
      refine pure_den _ (not_eq' _) (br_den (fun h1 => ret_to hO (fin H2 l2' ?_)) (fun h1 => chkN_den (pure_den _ (neg_eq _) ?_)))
      · simp only [Bool.not_eq_true', seenP, decide_eq_false_iff_not, not_or, not_and, Decidable.not_not] at h1
        by_cases hin : x.attacker ∈ att
        · have := h1.1 hin
          simp [this]
        · simp [hin]
      refine call_lookup1 mapIB intI zeroBo hm hsubM _ (hone _) ?_
      show Tree.den PP Q (.br ((lookM m (IntKind.i64.wrap (0 - x.blocker))).getD (.bool false)) _ _) H2 O2
      rw [hs]
      refine br_den (fun h2 => ret_to hO (fin H2 l2' ?_)) (fun h2 => chkN_den (chkN_den ?_))
      · by_cases hin : x.blocker ∈ other
        · have hr := hpt _ hin
          rw [wrap_id (by omega) (by omega)] at h2
          simp only [seenP, decide_eq_true_eq, Int.zero_sub, Int.neg_neg] at h2
          rcases h2 with ⟨h2, _⟩ | h2
          · have := hpo _ (hall _ h2); omega
          · simp [h2]
        · simp [hin]
      refine call_retO (c_Contains_int ((ha.le l2').own hsubO) x.attacker) rfl ⟨rfl, trivial⟩ fun H3 l3 => pure_den _ (not_eq' _) (br_den (fun h3 => ret_to hO (fin H3 (Heap.le_trans l2' l3) ?_)) (fun h3 => chkN_den ?_))
      · simp only [Bool.not_eq_true'] at h3
        rw [h3]; simp
      refine call_retO (c_Contains_int ((ht.le (Heap.le_trans l2' l3)).own hsubO) x.blocker) rfl ⟨rfl, trivial⟩ fun H4 l4 => pure_den _ (not_eq' _) (br_den (fun h4 => ret_to hO (fin H4 (Heap.le_trans l2' (Heap.le_trans l3 l4)) ?_)) (fun h4 => chkN_den (chkN_den (pure_den _ (neg_eq _) ?_))))
      · simp only [Bool.not_eq_true'] at h4
        rw [h4]; simp
      simp only [Bool.not_eq_false'] at h1 h3 h4
      have hain : x.attacker ∈ att := by simpa using h3
      have hbin : x.blocker ∈ other := by simpa using h4
      have hr := hpt _ hbin
      have hapos := hpo _ (hall _ hain)
      rw [wrap_id (by omega) (by omega)] at h2 ⊢
      rw [Int.zero_sub] at h2 ⊢
      refine call_update mapIB intI hm hO x.attacker (.bool false) ?_
      intro w Om2 hm2 _
      refine call_update mapIB intI hm2 (List.Perm.refl _) (-x.blocker) (.bool true) ?_
      intro w Om3 hm3 _
      refine pure_den _ (add_one (by have := hb.lenB; simp at this; omega)) (count_cont (heq2 _ _) hlt ⟨Heap.le_trans l2 (Heap.le_trans l3 l4), _, Om3, x.attacker :: ua, x.blocker :: ub, List.Perm.refl _, hm3, seen_upd hs hub hapos hr.1, ?_, ?_⟩)
      · intro y hy
        rcases List.mem_cons.1 hy with rfl | hy
        · exact hr.1
        · exact hub y hy
      · rw [hgo]
        have hua : ua.contains x.attacker = false := by
          simp only [seenP, decide_eq_true_eq] at h1
          rcases h1 with ⟨_, h1⟩ | h1
          · simpa using h1
          · have := hub _ h1; omega
        have hubn : ub.contains x.blocker = false := by
          simp only [seenP, decide_eq_false_iff_not, not_or, Int.neg_neg] at h2
          simpa using h2.2
        rw [hua, h3, hubn, h4]; rfl
    · have hie : i = bl.length := by
        have : ¬ ((i : Int) < (bl.length : Int)) := by simpa using hge
        omega
      subst hie
      rw [List.drop_length] at hgo
      refine ret_to hO ?_
      have := hQ H2 l2'
      rwa [hfb, hgo, blkGo] at this
end Go.Proofs.YtjaegdkkiefchaaGreatDoor
