/- Regions. -/
import Derived.Test.YtafnobmndgjeaaaDoorSx16
namespace Go.Sx
open Go

/-- How a region is looked at. -/
structure RC where
  P : Program
  okf : FuncId → Bool
  rules : FuncId → Option (List Nat)
  ops : Array Oper
  tab : List (Nat × Nat)
  sp : List Nat
  base : Nat
def RC.N (c : RC) (i : Nat) (o : Oper) (s : SS) : Option (NF × FP) := nf c.P c.okf c.rules (tgtOf c.ops) (c.sp.contains i) (c.base + i) o s
theorem RC.cong (c : RC) (i : Nat) (o : Oper) : Cong (c.N i o) (o.looksAt c.ops) := fun _ _ _ _ h hz ht hm => nf_congr h hz ht hm

/-- The operations, one after the other in the order that the tree takes. -/
def RR (c : RC) (d : Bool) (K : SS → Heap → Own → Prop) : List (Nat × Oper) → List Ent → SS → Heap → Own → Prop
  | [], _, s, H, O => K s H O
  | (i, o) :: r, log, s, H, O => ∃ x fp, c.N i o s = some (x, fp) ∧
      (d = true → okLog c.ops c.tab i o x fp log = true ∧ hvOk (fun k ok => c.N k ok s) c.ops c.tab i o x fp log r = true) ∧
      x.run c.P d o.dst s (RR c d K r (if d then ⟨i, o, x, fp⟩ :: log else log)) H O

theorem RR_den {c : RC} {d : Bool} {Q : Value → Heap → Own → Prop} {kk : SS → Tree} : ∀ {l : List (Nat × Oper)} {log : List Ent} {s : SS} {H : Heap} {O : Own},
    (regTree c.P c.okf c.rules d c.ops c.tab c.sp c.base l log s kk).den c.P Q H O → RR c d (fun s H O => (kk s).den c.P Q H O) l log s H O
  | [], _, _, _, _, h => h
  | (i, o) :: r, log, s, H, O, h => by
    simp only [regTree] at h
    split at h
    · exact h.elim
    · rename_i x fp hx
      split at h
      · exact h.elim
      · rename_i hc
        refine ⟨x, fp, hx, fun hd => ?_, NF.run_mono (fun _ _ _ hk => RR_den hk) (nfTree_den h)⟩
        subst hd
        simp only [Bool.true_and, Bool.not_eq_true', Bool.not_eq_false, Bool.and_eq_true] at hc
        exact hc

theorem okLog_sub {ops : Array Oper} {tab : List (Nat × Nat)} {i : Nat} {o : Oper} {x : NF} {fp : FP} {log log' : List Ent} (hs : ∀ e, e ∈ log' → e ∈ log) (h : okLog ops tab i o x fp log = true) : okLog ops tab i o x fp log' = true := by
  unfold okLog at *
  rw [List.all_eq_true] at *
  exact fun e he => h e (hs e he)
theorem hvOk_spec {nfi : Nat → Oper → Option (NF × FP)} {ops : Array Oper} {tab : List (Nat × Nat)} {a : Nat} {oa : Oper} {x : NF} {fp : FP} {log : List Ent} {r : List (Nat × Oper)} :
    hvOk nfi ops tab a oa x fp log r = true ↔ (x.isHv = true → ∀ k ∈ r, ordB tab a k.1 = false → ∃ y fpy, nfi k.1 k.2 = some (y, fpy) ∧ early x fp y fpy = true ∧ Oper.apart ops oa k.2 = true ∧ okLog ops tab k.1 k.2 y fpy log = true ∧
      ∀ m ∈ r, ordB tab a m.1 = false → m.1 = k.1 ∨ (Oper.apart ops m.2 k.2 = true ∧ ∃ z fz, nfi m.1 m.2 = some (z, fz) ∧ disj z.writes fpy.reads = true)) := by
  unfold hvOk
  cases x with
  | hv cs hk frz own shp post sv =>
    simp only [NF.isHv, forall_const, List.all_eq_true, List.mem_filter, Bool.not_eq_true']
    constructor
    · intro h k hk ho
      have := h k ⟨hk, ho⟩
      split at this
      · rename_i y fpy hy
        simp only [Bool.and_eq_true, List.all_eq_true, List.mem_filter, Bool.or_eq_true, beq_iff_eq, Bool.not_eq_true'] at this
        refine ⟨y, fpy, hy, this.1.1.1, this.1.1.2, this.1.2, fun m hm hom => ?_⟩
        rcases this.2 m ⟨hm, hom⟩ with h | ⟨h1, h2⟩
        · exact .inl h
        · refine .inr ⟨h1, ?_⟩
          split at h2
          · rename_i z fz hz; exact ⟨z, fz, hz, h2⟩
          · cases h2
      · cases this
    · rintro h k ⟨hk, ho⟩
      obtain ⟨y, fpy, hy, h1, h2, h3, h4⟩ := h k hk ho
      rw [hy]
      simp only [Bool.and_eq_true, List.all_eq_true, List.mem_filter, Bool.or_eq_true, beq_iff_eq, Bool.not_eq_true']
      refine ⟨⟨⟨h1, h2⟩, h3⟩, ?_⟩
      rintro m ⟨hm, hom⟩
      rcases h4 m hm hom with h | ⟨h5, z, fz, hz, h6⟩
      · exact .inl h
      · exact .inr ⟨h5, by rw [hz]; exact h6⟩
  | _ => simp [NF.isHv]
theorem hvOk_sub {nfi : Nat → Oper → Option (NF × FP)} {ops : Array Oper} {tab : List (Nat × Nat)} {a : Nat} {oa : Oper} {x : NF} {fp : FP} {log log' : List Ent} {r r' : List (Nat × Oper)}
    (hs : ∀ e, e ∈ log' → e ∈ log) (hr : ∀ e, e ∈ r' → e ∈ r) (h : hvOk nfi ops tab a oa x fp log r = true) : hvOk nfi ops tab a oa x fp log' r' = true := by
  rw [hvOk_spec] at *
  intro hx k hk ho
  obtain ⟨y, fpy, hy, h1, h2, h3, h4⟩ := h hx k (hr k hk) ho
  exact ⟨y, fpy, hy, h1, h2, okLog_sub hs h3, fun m hm hom => h4 m (hr m hm) hom⟩

theorem RR_weaken {c : RC} {K : SS → Heap → Own → Prop} : ∀ {l : List (Nat × Oper)} {log log' : List Ent} {s : SS} {H : Heap} {O : Own}, (∀ e, e ∈ log' → e ∈ log) → RR c true K l log s H O → RR c true K l log' s H O
  | [], _, _, _, _, _, _, h => h
  | (i, o) :: r, log, log', s, H, O, hs, ⟨x, fp, hx, hc, hr⟩ => by
    refine ⟨x, fp, hx, fun hd => ⟨okLog_sub hs (hc hd).1, hvOk_sub hs (fun _ h => h) (hc hd).2⟩, NF.run_mono (fun _ _ _ hk => RR_weaken ?_ hk) hr⟩
    intro e he
    simp only [if_true, List.mem_cons] at he ⊢
    exact he.imp id (hs e)

theorem hvOk_near {c : RC} {a : Nat} {oa : Oper} {x : NF} {fp : FP} {log : List Ent} {r r' : List (Nat × Oper)} {s s' : SS} {i : Nat} {o : Oper} {y : NF} {fy : FP}
    (h : hvOk (fun k ok => c.N k ok s) c.ops c.tab a oa x fp log r = true) (hi : (i, o) ∈ r) (ho : ordB c.tab a i = false) (hy : c.N i o s = some (y, fy)) (hn : Near o.dst y.writes s s')
    (hr : ∀ e, e ∈ r' → e ∈ r ∧ e.1 ≠ i) : hvOk (fun k ok => c.N k ok s') c.ops c.tab a oa x fp log r' = true := by
  rw [hvOk_spec] at *
  intro hx k hk hok
  have key : ∀ k, k ∈ r' → ordB c.tab a k.1 = false → ∀ z fz, c.N k.1 k.2 s = some (z, fz) → c.N k.1 k.2 s' = some (z, fz) := by
    intro k hk hok z fz hz
    obtain ⟨y', fy', hy', _, _, _, h4⟩ := h hx k (hr k hk).1 hok
    have h5 := (h4 (i, o) hi ho).resolve_left (fun e => (hr k hk).2 e.symm)
    obtain ⟨hap, z', fz', hz', hd⟩ := h5
    have hz' : c.N i o s = some (z', fz') := hz'
    rw [hy] at hz'
    simp only [Option.some.injEq, Prod.mk.injEq] at hz'
    obtain ⟨rfl, rfl⟩ := hz'
    have : (y', fy') = (z, fz) := by
      have e : some (y', fy') = some (z, fz) := hy'.symm.trans hz
      exact Option.some.inj e
    obtain ⟨rfl, rfl⟩ := Prod.mk.inj this
    exact (c.cong k.1 k.2).near hn (Oper.apart_spec hap).1 (fun n hn' => disj_spec' hd hn') hz
  obtain ⟨y', fy', hy', h1, h2, h3, h4⟩ := h hx k (hr k hk).1 hok
  refine ⟨y', fy', key k hk hok _ _ hy', h1, h2, h3, fun m hm hom => ?_⟩
  rcases h4 m (hr m hm).1 hom with h | ⟨h5, z, fz, hz, h6⟩
  · exact .inl h
  · exact .inr ⟨h5, z, fz, key m hm hom _ _ hz, h6⟩

theorem NF.run_any {P : Program} {d : Bool} {dst : Option Tmp} {x : NF} {s : SS} {K : SS → Heap → Own → Prop} {H : Heap} {O : Own} (hx : x.isHv = false) (h : x.run P d dst s K H O) : ∃ s' H' O', K s' H' O' := by
  cases x with
  | fl cs k X => obtain ⟨h1, vs, h2, h3⟩ := h; exact ⟨_, _, _, h3⟩
  | box cs n T cells val => exact ⟨_, _, _, h.2 0⟩
  | stb cs n b => exact ⟨_, _, _, h.2⟩
  | hv cs k frz own shp post sv => simp [NF.isHv] at hx
  | st cs p vs => obtain ⟨h1, O', h2, h3⟩ := h; exact ⟨_, _, _, h3⟩
/-- One that is not bound to wait may be run first. -/
theorem RR_front {c : RC} {K : SS → Heap → Own → Prop} {i : Nat} {o : Oper} {l2 : List (Nat × Oper)} : ∀ {l1 : List (Nat × Oper)} {log : List Ent} {s : SS} {H : Heap} {O : Own},
    RR c true K (l1 ++ (i, o) :: l2) log s H O → (∀ e ∈ l1, ordB c.tab e.1 i = false) → (∀ e ∈ l1 ++ l2, e.1 ≠ i) →
    ∃ y fy, c.N i o s = some (y, fy) ∧ okLog c.ops c.tab i o y fy log = true ∧ y.run c.P true o.dst s (RR c true K (l1 ++ l2) log) H O
  | [], log, s, H, O, ⟨x, fp, hx, hc, hr⟩, _, _ =>
    ⟨x, fp, hx, (hc rfl).1, NF.run_mono (fun _ _ _ hk => RR_weaken (fun e he => by simp [he]) hk) hr⟩
  | (a, oa) :: l1, log, s, H, O, ⟨x, fp, hx, hc, hr⟩, ho, hne => by
    obtain ⟨hc1, hc2⟩ := hc rfl
    have hoa : ordB c.tab a i = false := ho (a, oa) (by simp)
    have hr' := NF.run_mono (fun s' H' O' hk => RR_front (l1 := l1) hk (fun e he => ho e (by simp [he])) (fun e he => hne e (by simp only [List.cons_append, List.mem_cons]; exact .inr he))) hr
    have hlog : ∀ {y : NF} {fy : FP}, okLog c.ops c.tab i o y fy (⟨a, oa, x, fp⟩ :: log) = true → early x fp y fy = true ∧ Oper.apart c.ops oa o = true ∧ okLog c.ops c.tab i o y fy log = true := by
      intro y fy h
      refine ⟨?_, ?_, okLog_sub (fun e he => by simp [he]) h⟩
      all_goals
        unfold okLog at h
        rw [List.all_cons, Bool.and_eq_true] at h
        have := h.1
        simp only [hoa, Bool.false_or, Bool.and_eq_true] at this
      · exact this.1
      · exact this.2
    have hmem : (i, o) ∈ l1 ++ (i, o) :: l2 := by simp
    have hap : Oper.apart c.ops oa o = true := by
      cases hh : x.isHv with
      | true => obtain ⟨_, _, _, _, h2, _⟩ := (hvOk_spec.1 hc2) hh (i, o) hmem hoa; exact h2
      | false => obtain ⟨_, _, _, y, fy, _, hl, _⟩ := NF.run_any hh hr'; exact (hlog hl).2.1
    obtain ⟨p1, p2, p3⟩ := Oper.apart_spec hap
    have := swap (P := c.P) (c.cong a oa) (c.cong i o) p1 p2 p3 hx (C := fun y fy => okLog c.ops c.tab i o y fy log = true) (K := RR c true K (l1 ++ l2) (⟨a, oa, x, fp⟩ :: log)) (H := H) (O := O) ?_ ?_
    · obtain ⟨y, fy, hy, he, hC, hrun⟩ := this
      refine ⟨y, fy, hy, hC, NF.run_mono (fun s' H' O' ⟨h1, h2, h3⟩ => ⟨x, fp, h1, fun _ => ⟨hc1, ?_⟩, h3⟩) hrun⟩
      refine hvOk_near hc2 hmem hoa hy h2 (fun e he => ⟨?_, hne e (by simp only [List.cons_append, List.mem_cons]; exact .inr he)⟩)
      exact List.mem_append.2 ((List.mem_append.1 he).imp id (List.mem_cons_of_mem _))
    · intro hx'
      obtain ⟨y, fy, hy, h1, _, h3, _⟩ := (hvOk_spec.1 hc2) hx' (i, o) hmem hoa
      exact ⟨y, fy, hy, h1, h3⟩
    · exact NF.run_mono (fun s' H' O' ⟨y, fy, hy, hl, hrun⟩ => ⟨y, fy, hy, (hlog hl).1, (hlog hl).2.2, hrun⟩) hr'
end Go.Sx
