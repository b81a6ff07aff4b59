/- Own memory is changed: stain. -/
import Derived.Test.YtjaegdkkiefchaaGreatDoorC21
namespace Go.Proofs.YtjaegdkkiefchaaGreatDoor
open Go Go.Sx
set_option maxRecDepth 100000
set_option maxHeartbeats 1000000

theorem inc_eq (n : Int) : evalPure (.bin .add .int) [iV n, iV 1] = some (iV (IntKind.i64.wrap (n + 1))) := rfl
theorem ptr0 (a : Addr) : ptrAdd (.pointer (some a)) 0 = .pointer (some a) := by simp [ptrAdd, Addr.add]
theorem ints_set (l : List Int) (i : Nat) (n : Int) : (ints l).set i (splice [iV l[i]!] 0 [iV n]) = ints (l.set i n) := by
  simp [ints, splice, List.map_set]
theorem stain_ints {lab key : Nat} {v : Value} {l : List Int} {A R O : Own} {H : Heap} {Q : Value → Heap → Own → Prop} {eqs : List (List Value × List Value)} {k : Tree} (h : OSl Ty_int 1 v (ints l) A) (hp : O.Perm (A ++ R)) (he : Eqs eqs)
    (hk : ∀ H' O' A', Heap.le H H' → O'.Perm (A' ++ R) → k.den PP Q H' O') :
    (Tree.loop lab key [(.int .i64 0)] fun C l1 =>
      .pure [] .len [v] fun v2 =>
      .pure [] (.bin .lss .int) [(g l1 0), v2] fun v3 =>
      .br v3 (
        .pure [] (.idx 1) [v, (g l1 0)] fun v4 =>
        .load [] v4 1 fun l5 =>
        .pure [] (.bin .add .int) [(g l5 0), (.int .i64 1)] fun v6 =>
        .pure [] (.idx 1) [v, (g l1 0)] fun v7 =>
        .chk (.ptr [] v7) <|
        .store v7 [v6] <|
        .pure [] (.bin .add .int) [(g l1 0), (.int .i64 1)] fun v8 =>
        .cont lab C [v8] eqs) k).den PP Q H O := by
  have hB := h.lenB
  simp only [ints, List.length_map] at hB
  refine count_den l.length (fun i H' O' => Heap.le H H' ∧ ∃ (l' : List Int) (A' : Own), l'.length = l.length ∧ O'.Perm (A' ++ R) ∧ OSl Ty_int 1 v (ints l') A') ⟨Heap.le_refl _, l, A, rfl, hp, h⟩ ?_
  rintro i H' O' hi - ⟨hle, l', A', hl', hp', hA⟩
  have hlen := hA.len
  rw [ints, List.length_map, hl'] at hlen
  refine pure_den _ hlen (pure_den _ (lss_eq _ _) (br_den (fun hb => ?_) (fun hb => hk H' O' A' hle hp')))
  have hlt : i < l.length := by simpa using hb
  have hr : (ints l')[i]? = some [iV l'[i]] := by simp [ints, hl', hlt]
  obtain ⟨a, k1, _, k2, _⟩ := hA.idx (fun p h => hp'.mem_iff.2 (List.mem_append_left _ h)) H' (k := .i64) hr
  obtain ⟨a2, j1, j2⟩ := hA.store hp' (k := .i64) hr
  obtain ⟨A2, hst, hA2⟩ := j2 0 [iV (IntKind.i64.wrap (l'[i] + 1))] (by simp) ⟨rfl, trivial⟩
  rw [ptr0] at hst
  refine pure_den _ k1 (load_denR k2 rfl ⟨rfl, trivial⟩ (pure_den _ (inc_eq _) (pure_den _ j1 (chkP_den rfl ⟨_, hst, ?_⟩))))
  refine pure_den _ (add_one (by omega)) (count_cont he hlt ⟨hle, l'.set i (IntKind.i64.wrap (l'[i] + 1)), A2, by simp [hl'], List.Perm.refl _, ?_⟩)
  have e : (ints l').set i (splice [iV l'[i]] 0 [iV (IntKind.i64.wrap (l'[i] + 1))]) = ints (l'.set i (IntKind.i64.wrap (l'[i] + 1))) := by simp [ints, splice, List.map_set]
  rwa [e] at hA2
theorem flatten_pick : ∀ {Ts : List Own} {i : Nat} (h : i < Ts.length), (List.flatten Ts).Perm (Ts[i] ++ List.flatten (Ts.eraseIdx i)) ∧ ∀ T, (List.flatten (Ts.set i T)).Perm (T ++ List.flatten (Ts.eraseIdx i))
  | [], _, h => absurd h (Nat.not_lt_zero _)
  | a :: r, 0, _ => by simp
  | a :: r, i + 1, h => by
    have h' : i < r.length := by simpa using h
    obtain ⟨h1, h2⟩ := flatten_pick h'
    refine ⟨?_, fun T => ?_⟩
    · simp only [List.flatten_cons, List.getElem_cons_succ, List.eraseIdx_cons_succ]
      exact (h1.append_left a).trans (List.perm_append_comm_assoc _ _ _)
    · simp only [List.set_cons_succ, List.flatten_cons, List.eraseIdx_cons_succ]
      exact ((h2 T).append_left a).trans (List.perm_append_comm_assoc _ _ _)
theorem stain_items {lab key lab2 key2 : Nat} {v : Value} {l : List It} {A R O : Own} {H : Heap} {Q : Value → Heap → Own → Prop} {eqs : List (List Value × List Value)} {eqs2 : List Value → List (List Value × List Value)} {k : Tree} (h : OIts Ty_api_Target Ty_api_Item v l A) (hp : O.Perm (A ++ R)) (he : Eqs eqs) (he2 : ∀ x, Eqs (eqs2 x))
    (hk : ∀ H' O' A', Heap.le H H' → O'.Perm (A' ++ R) → k.den PP Q H' O') :
    (Tree.loop lab key [(.int .i64 0)] fun C l1 =>
      .pure [] .len [v] fun v2 =>
      .pure [] (.bin .lss .int) [(g l1 0), v2] fun v3 =>
      .br v3 (
        .pure [] (.idx 5) [v, (g l1 0)] fun v77 =>
        .chk (.ptr [] v77) <|
        .load [] (ptrAdd v77 2) 1 fun l78 =>
        .pure [] (.bin .add .int) [(g l78 0), (.int .i64 1)] fun v79 =>
        .pure [] (.idx 5) [v, (g l1 0)] fun v80 =>
        .chk (.ptr [] v80) <|
        .chk (.ptr [] (ptrAdd v80 2)) <|
        .store (ptrAdd v80 2) [v79] <|
        .loop lab2 key2 [(.int .i64 0)] fun C150 l81 =>
          .pure [] (.idx 5) [v, (g l1 0)] fun v82 =>
          .chk (.ptr [] v82) <|
          .load [] (ptrAdd v82 4) 1 fun l83 =>
          .pure [] .len [(g l83 0)] fun v84 =>
          .pure [] (.bin .lss .int) [(g l81 0), v84] fun v85 =>
          .br v85 (
            .pure [] (.idx 5) [v, (g l1 0)] fun v86 =>
            .chk (.ptr [] v86) <|
            .load [] (ptrAdd v86 4) 1 fun l87 =>
            .pure [] (.idx 2) [(g l87 0), (g l81 0)] fun v88 =>
            .chk (.ptr [] v88) <|
            .load [] v88 1 fun l89 =>
            .pure [] (.bin .add .int) [(g l89 0), (.int .i64 1)] fun v90 =>
            .pure [] (.idx 2) [(g l87 0), (g l81 0)] fun v91 =>
            .chk (.ptr [] v91) <|
            .chk (.ptr [] v91) <|
            .store v91 [v90] <|
            .pure [] (.bin .add .int) [(g l81 0), (.int .i64 1)] fun v92 =>
            .cont lab2 C150 [v92] (eqs2 l1)) (
            .pure [] (.bin .add .int) [(g l1 0), (.int .i64 1)] fun v93 =>
            .cont lab C [v93] eqs)) k).den PP Q H O := by
  have hB : l.length < 2 ^ 63 := by
    obtain ⟨rows, _, _, _, h1, h2, _⟩ := h
    rw [← h2]; exact h1.lenB
  refine count_den l.length (fun i H' O' => Heap.le H H' ∧ ∃ (l' : List It) (A' : Own), l'.length = l.length ∧ O'.Perm (A' ++ R) ∧ OIts Ty_api_Target Ty_api_Item v l' A') ⟨Heap.le_refl _, l, A, rfl, hp, h⟩ ?_
  rintro i H' O' hi - ⟨hle, l', A', hl', hp', hA⟩
  have hlen := ItsR.len (hA.r (fun p hp => hp) H')
  rw [hl'] at hlen
  refine pure_den _ hlen (pure_den _ (lss_eq _ _) (br_den (fun hb => ?_) (fun hb => hk H' O' A' hle hp')))
  have hlt : i < l.length := by simpa using hb
  obtain ⟨rows, B, Ts, hpB, hO, hrl, htl, hspec⟩ := hA
  have hp1 : O'.Perm (B ++ (List.flatten Ts ++ R)) := hp'.trans ((hpB.append_right R).trans (List.Perm.of_eq (List.append_assoc _ _ _)))
  have hri : rows[i]? = some rows[i] := List.getElem?_eq_getElem (by omega)
  obtain ⟨s, hrow, hT⟩ := hspec i rows[i] l'[i] Ts[i] hri (List.getElem?_eq_getElem (by omega)) (List.getElem?_eq_getElem (by omega))
  obtain ⟨a, k1, _, _, k3⟩ := hO.idx (fun p h => hp1.mem_iff.2 (List.mem_append_left _ h)) H' (k := .i64) hri
  have hr2 := k3 2 1 (by omega)
  rw [hrow] at hr2
  obtain ⟨a2, j1, j2⟩ := hO.store hp1 (k := .i64) hri
  obtain ⟨B2, hst, hO2⟩ := j2 2 [iV (IntKind.i64.wrap (l'[i].card + 1))] (by simp) ⟨rfl, trivial⟩
  refine pure_den _ k1 (chkP_den rfl (load_denR hr2 rfl ⟨rfl, trivial⟩ (pure_den _ (inc_eq _) (pure_den _ j1 (chkP_den rfl (chkP_den rfl ⟨_, hst, ?_⟩))))))
  have hsp : splice rows[i] 2 [iV (IntKind.i64.wrap (l'[i].card + 1))] = [iV l'[i].player, iV l'[i].id, iV (IntKind.i64.wrap (l'[i].card + 1)), iV l'[i].trig, s] := by rw [hrow]; rfl
  rw [hsp] at hO2
  have tB : l'[i].tgs.length < 2 ^ 63 := by have := hT.lenB; rwa [List.length_map] at this
  refine count_den l'[i].tgs.length (fun j H'' O'' => Heap.le H' H'' ∧ ∃ (l2 : List It) (A2 : Own), l2.length = l.length ∧ O''.Perm (A2 ++ R) ∧ OIts Ty_api_Target Ty_api_Item v l2 A2 ∧ (l2[i]?.map fun x => x.tgs.length) = some l'[i].tgs.length) ?_ ?_
  · refine ⟨Heap.le_refl _, l'.set i { l'[i] with card := IntKind.i64.wrap (l'[i].card + 1) }, B2 ++ List.flatten Ts, by simp [hl'], List.Perm.of_eq (List.append_assoc _ _ _).symm, ⟨_, B2, Ts, List.Perm.refl _, hO2, by simp [hrl], by simp [htl], ?_⟩, ?_⟩
    · intro j r x T h1 h2 h3
      by_cases hj : j = i
      · subst hj
        rw [List.getElem?_set_self (by omega)] at h1 h2
        rw [List.getElem?_eq_getElem (by omega)] at h3
        simp only [Option.some.injEq] at h1 h2 h3
        subst h1; subst h2; subst h3
        exact ⟨s, rfl, hT⟩
      · rw [List.getElem?_set_ne (by omega)] at h1 h2
        exact hspec j r x T h1 h2 h3
    · rw [List.getElem?_set_self (by omega)]; rfl
  clear hO2 hst j1 j2 hr2 k3 k1 hspec hT hrow hri hO hpB hp1 hp'
  rintro j H2 O2 hj - ⟨hle2, l2, A2, hl2, hp2, ⟨rows2, B3, Ts2, hpB, hO, hrl2, htl2, hspec⟩, htg⟩
  have hi2 : l2[i]? = some l2[i] := List.getElem?_eq_getElem (by omega)
  rw [hi2, Option.map_some, Option.some.injEq] at htg
  have hp1 : O2.Perm (B3 ++ (List.flatten Ts2 ++ R)) := hp2.trans ((hpB.append_right R).trans (List.Perm.of_eq (List.append_assoc _ _ _)))
  have hri : rows2[i]? = some rows2[i] := List.getElem?_eq_getElem (by omega)
  have hti : Ts2[i]? = some Ts2[i] := List.getElem?_eq_getElem (by omega)
  obtain ⟨s, hrow, hT⟩ := hspec i rows2[i] l2[i] Ts2[i] hri hi2 hti
  obtain ⟨a, k1, _, _, k3⟩ := hO.idx (fun p h => hp1.mem_iff.2 (List.mem_append_left _ h)) H2 (k := .i64) hri
  have hr4 := k3 4 1 (by omega)
  rw [hrow] at hr4
  have tlen := hT.len
  rw [List.length_map, htg] at tlen
  refine pure_den _ k1 (chkP_den rfl (load_denR hr4 rfl ⟨hT.one, trivial⟩ (pure_den _ tlen (pure_den _ (lss_eq _ _) (br_den (fun hb => ?_) (fun hb => ?_))))))
  · have hltj : j < l'[i].tgs.length := by simpa using hb
    have hltj2 : j < l2[i].tgs.length := by omega
    obtain ⟨hf1, hf2⟩ := flatten_pick (Ts := Ts2) (i := i) (by omega)
    have hp3 : O2.Perm (Ts2[i] ++ (B3 ++ (List.flatten (Ts2.eraseIdx i) ++ R))) := by
      refine hp1.trans (((hf1.append_right R).append_left B3).trans ?_)
      rw [List.append_assoc]
      exact List.perm_append_comm_assoc _ _ _
    have htr : (l2[i].tgs.map Tg.row)[j]? = some (Tg.row l2[i].tgs[j]) := by simp [hltj2]
    obtain ⟨b, m1, _, _, m3⟩ := hT.idx (fun p h => hp3.mem_iff.2 (List.mem_append_left _ h)) H2 (k := .i64) htr
    have hr0 := m3 0 1 (by omega)
    rw [ptr0] at hr0
    obtain ⟨b2, n1, n2⟩ := hT.store hp3 (k := .i64) htr
    obtain ⟨T', hst, hT'⟩ := n2 0 [iV (IntKind.i64.wrap (l2[i].tgs[j].id + 1))] (by simp) ⟨rfl, trivial⟩
    rw [ptr0] at hst
    refine pure_den _ k1 (chkP_den rfl (load_denR hr4 rfl ⟨hT.one, trivial⟩ (pure_den _ m1 (chkP_den rfl (load_denR hr0 rfl ⟨rfl, trivial⟩ (pure_den _ (inc_eq _) (pure_den _ n1 (chkP_den rfl (chkP_den rfl ⟨_, hst, ?_⟩)))))))))
    have htgs : (l2[i].tgs.map Tg.row).set j (splice (Tg.row l2[i].tgs[j]) 0 [iV (IntKind.i64.wrap (l2[i].tgs[j].id + 1))]) = (l2[i].tgs.set j { l2[i].tgs[j] with id := IntKind.i64.wrap (l2[i].tgs[j].id + 1) }).map Tg.row := by
      rw [List.map_set]; rfl
    rw [htgs] at hT'
    refine pure_den _ (add_one (by omega)) (count_cont (he2 _) hltj ⟨hle2, l2.set i { l2[i] with tgs := l2[i].tgs.set j { l2[i].tgs[j] with id := IntKind.i64.wrap (l2[i].tgs[j].id + 1) } }, B3 ++ List.flatten (Ts2.set i T'), by simp [hl2], ?_, ⟨rows2, B3, Ts2.set i T', List.Perm.refl _, hO, by simp [hrl2], by simp [htl2], ?_⟩, ?_⟩)
    · rw [List.append_assoc]
      refine List.Perm.trans (List.perm_append_comm_assoc _ _ _) (List.Perm.append_left B3 ?_)
      rw [← List.append_assoc]
      exact (hf2 T').symm.append_right R
    · intro q r x T h1 h2 h3
      by_cases hq : q = i
      · subst hq
        rw [List.getElem?_set_self (by omega)] at h2 h3
        rw [hri] at h1
        simp only [Option.some.injEq] at h1 h2 h3
        subst h1; subst h2; subst h3
        exact ⟨s, hrow, hT'⟩
      · rw [List.getElem?_set_ne (by omega)] at h2 h3
        exact hspec q r x T h1 h2 h3
    · rw [List.getElem?_set_self (by omega)]
      simp [htg]
  · refine pure_den _ (add_one (by omega)) (count_cont he hlt ⟨Heap.le_trans hle hle2, l2, A2, hl2, hp2, ⟨rows2, B3, Ts2, hpB, hO, hrl2, htl2, hspec⟩⟩)
end Go.Proofs.YtjaegdkkiefchaaGreatDoor
