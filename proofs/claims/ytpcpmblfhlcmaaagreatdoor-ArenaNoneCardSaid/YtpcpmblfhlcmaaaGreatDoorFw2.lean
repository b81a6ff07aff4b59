/- My framework, part 2: a function's code is reckoned to a tree; what the tree says, the function does. Generic: no program in sight. -/
import Derived.Lib.Bytealg
import Derived.Laws.Strings
import Derived.Laws.StructEq
import Derived.ProofKit
import Derived.LaidMore
import Derived.OpenShut
import Derived.Stop.Joined
import Derived.Carry
import Derived.ShutString
import Derived.Maps.AppendAt
import Derived.ArgAppend
import Derived.OrdersIn
import Derived.RangeFuncCalls
import Derived.RangeFuncSeq
import Derived.RangeFuncLeaves
import Derived.Scope
import Derived.Test.YtpcpmblfhlcmaaaGreatDoorFw1
namespace Go.Sx
open Go
structure RC where
 P : Program
 okf : FuncId → Bool
 rules : FuncId → Option (List Nat)
 ops : Array Oper
 tab : List (Nat × Nat)
 sp : List Nat
 base : Nat
def RC.N (c : RC) (i : Nat) (o : Oper) (s : SS) : Option (NF × FP) := nf c.P c.okf c.rules (aJ c.ops) (c.sp.contains i) (c.base + i) o s
theorem RC.cong (c : RC) (i : Nat) (o : Oper) : Cong (c.N i o) (o.looksAt c.ops) := fun _ _ _ _ h hz ht hm => qP h hz ht hm
def RR (c : RC) (d : Bool) (K : SS → Heap → Own → Prop) : List (Nat × Oper) → List Ent → SS → Heap → Own → Prop
 | [], _, s, H, O => K s H O
 | (i, o) :: r, log, s, H, O => ∃ x fp, c.N i o s = some (x, fp) ∧
   (d = true → mn c.ops c.tab i o x fp log = true ∧ Bj (fun k ok => c.N k ok s) c.ops c.tab i o x fp log r = true) ∧
   x.run c.P (d && dAt c.tab i log) o.dst s (RR c d K r (if d then ⟨i, o, x, fp⟩ :: log else log)) H O
theorem s9 {c : RC} {d : Bool} {Q : Value → Heap → Own → Prop} {kk : SS → Tree} : ∀ {l : List (Nat × Oper)} {log : List Ent} {s : SS} {H : Heap} {O : Own},
  (nl c.P c.okf c.rules d c.ops c.tab c.sp c.base l log s kk).den c.P Q H O → RR c d (fun s H O => (kk s).den c.P Q H O) l log s H O
 | [], _, _, _, _, h => h
 | (i, o) :: r, log, s, H, O, h => by
  simp only [nl] at h
  split at h
  ·exact h.elim
  ·rename_i x fp hx
   split at h
   ·exact h.elim
   ·rename_i hc
    refine ⟨x, fp, hx, fun hd => ?_, NF.run_mono (fun _ _ _ hk => s9 hk) (vx h)⟩
    subst hd
    simp only [Bool.true_and, Bool.not_eq_true', Bool.not_eq_false, Bool.and_eq_true] at hc
    exact hc
theorem nE {ops : Array Oper} {tab : List (Nat × Nat)} {i : Nat} {o : Oper} {x : NF} {fp : FP} {log log' : List Ent} (hs : ∀ e, e ∈ log' → e ∈ log) (h : mn ops tab i o x fp log = true) : mn ops tab i o x fp log' = true := by
 unfold mn at *
 rw [List.all_eq_true] at *
 exact fun e he => h e (hs e he)
theorem j9 {nfi : Nat → Oper → Option (NF × FP)} {ops : Array Oper} {tab : List (Nat × Nat)} {a : Nat} {oa : Oper} {x : NF} {fp : FP} {log : List Ent} {r : List (Nat × Oper)} :
  Bj nfi ops tab a oa x fp log r = true ↔ (x.isHv = true → ∀ k ∈ r, o7 tab a k.1 = false → ∃ y fpy, nfi k.1 k.2 = some (y, fpy) ∧ jB x fp y fpy = true ∧ Oper.apart ops oa k.2 = true ∧ mn ops tab k.1 k.2 y fpy log = true ∧
   ∀ m ∈ r, o7 tab a m.1 = false → m.1 = k.1 ∨ (Oper.apart ops m.2 k.2 = true ∧ ∃ z fz, nfi m.1 m.2 = some (z, fz) ∧ sN z.writes fpy.reads = true)) := by
 unfold Bj
 cases x with
 | hv cs hk frz own shp post sv =>
  simp only [NF.isHv, forall_const, List.all_eq_true, List.mem_filter, Bool.not_eq_true']
  constructor
  ·intro h k hk ho
   have := h k ⟨hk, ho⟩
   split at this
   ·rename_i y fpy hy
    simp only [Bool.and_eq_true, List.all_eq_true, List.mem_filter, Bool.or_eq_true, beq_iff_eq, Bool.not_eq_true'] at this
    refine ⟨y, fpy, hy, this.1.1.1, this.1.1.2, this.1.2, fun m hm hom => ?_⟩
    rcases this.2 m ⟨hm, hom⟩ with h | ⟨h1, h2⟩
    ·exact .inl h
    ·refine .inr ⟨h1, ?_⟩
     split at h2
     ·rename_i z fz hz; exact ⟨z, fz, hz, h2⟩
     ·cases h2
   ·cases this
  ·rintro h k ⟨hk, ho⟩
   obtain ⟨y, fpy, hy, h1, h2, h3, h4⟩ := h k hk ho
   rw [hy]
   simp only [Bool.and_eq_true, List.all_eq_true, List.mem_filter, Bool.or_eq_true, beq_iff_eq, Bool.not_eq_true']
   refine ⟨⟨⟨h1, h2⟩, h3⟩, ?_⟩
   rintro m ⟨hm, hom⟩
   rcases h4 m hm hom with h | ⟨h5, z, fz, hz, h6⟩
   ·exact .inl h
   ·exact .inr ⟨h5, by rw [hz]; exact h6⟩
 | _ => simp [NF.isHv]
theorem Ak {nfi : Nat → Oper → Option (NF × FP)} {ops : Array Oper} {tab : List (Nat × Nat)} {a : Nat} {oa : Oper} {x : NF} {fp : FP} {log log' : List Ent} {r r' : List (Nat × Oper)}
  (hs : ∀ e, e ∈ log' → e ∈ log) (hr : ∀ e, e ∈ r' → e ∈ r) (h : Bj nfi ops tab a oa x fp log r = true) : Bj nfi ops tab a oa x fp log' r' = true := by
 rw [j9] at *
 intro hx k hk ho
 obtain ⟨y, fpy, hy, h1, h2, h3, h4⟩ := h hx k (hr k hk) ho
 exact ⟨y, fpy, hy, h1, h2, nE hs h3, fun m hm hom => h4 m (hr m hm) hom⟩
theorem EG {tab : List (Nat × Nat)} {i : Nat} {log log' : List Ent} (hs : ∀ e, e ∈ log' → e ∈ log) (h : dAt tab i log' = true) : dAt tab i log = true := by
 unfold dAt at *
 rw [List.any_eq_true] at *
 obtain ⟨e, he, h⟩ := h
 exact ⟨e, hs e he, h⟩
theorem Bo {tab : List (Nat × Nat)} {i : Nat} {log log' : List Ent} (hs : ∀ e, e ∈ log' → e ∈ log) : (true && dAt tab i log') = true → (true && dAt tab i log) = true := by
 rw [Bool.true_and, Bool.true_and]; exact EG hs
theorem s8 {c : RC} {K : SS → Heap → Own → Prop} : ∀ {l : List (Nat × Oper)} {log log' : List Ent} {s : SS} {H : Heap} {O : Own}, (∀ e, e ∈ log' → e ∈ log) → RR c true K l log s H O → RR c true K l log' s H O
 | [], _, _, _, _, _, _, h => h
 | (i, o) :: r, log, log', s, H, O, hs, ⟨x, fp, hx, hc, hr⟩ => by
  refine ⟨x, fp, hx, fun hd => ⟨nE hs (hc hd).1, Ak hs (fun _ h => h) (hc hd).2⟩, NF.run_le (Bo hs) (NF.run_mono (fun _ _ _ hk => s8 ?_ hk) hr)⟩
  intro e he
  simp only [if_true, List.mem_cons] at he ⊢
  exact he.imp id (hs e)
theorem xG {c : RC} {a : Nat} {oa : Oper} {x : NF} {fp : FP} {log : List Ent} {r r' : List (Nat × Oper)} {s s' : SS} {i : Nat} {o : Oper} {y : NF} {fy : FP}
  (h : Bj (fun k ok => c.N k ok s) c.ops c.tab a oa x fp log r = true) (hi : (i, o) ∈ r) (ho : o7 c.tab a i = false) (hy : c.N i o s = some (y, fy)) (hn : Near o.dst y.writes s s')
  (hr : ∀ e, e ∈ r' → e ∈ r ∧ e.1 ≠ i) : Bj (fun k ok => c.N k ok s') c.ops c.tab a oa x fp log r' = true := by
 rw [j9] at *
 intro hx k hk hok
 have key : ∀ k, k ∈ r' → o7 c.tab a k.1 = false → ∀ z fz, c.N k.1 k.2 s = some (z, fz) → c.N k.1 k.2 s' = some (z, fz) := by
  intro k hk hok z fz hz
  obtain ⟨y', fy', hy', _, _, _, h4⟩ := h hx k (hr k hk).1 hok
  have h5 := (h4 (i, o) hi ho).resolve_left (fun e => (hr k hk).2 e.symm)
  obtain ⟨hap, z', fz', hz', hd⟩ := h5
  have hz' : c.N i o s = some (z', fz') := hz'
  rw [hy] at hz'
  simp only [Option.some.injEq, Prod.mk.injEq] at hz'
  obtain ⟨rfl, rfl⟩ := hz'
  have : (y', fy') = (z, fz) := by
   have e : some (y', fy') = some (z, fz) := hy'.symm.trans hz
   exact Option.some.inj e
  obtain ⟨rfl, rfl⟩ := Prod.mk.inj this
  exact (c.cong k.1 k.2).near hn (Oper.apart_spec hap).1 (fun n hn' => lx hd hn') hz
 obtain ⟨y', fy', hy', h1, h2, h3, h4⟩ := h hx k (hr k hk).1 hok
 refine ⟨y', fy', key k hk hok _ _ hy', h1, h2, h3, fun m hm hom => ?_⟩
 rcases h4 m (hr m hm).1 hom with h | ⟨h5, z, fz, hz, h6⟩
 ·exact .inl h
 ·exact .inr ⟨h5, z, fz, key m hm hom _ _ hz, h6⟩
theorem NF.run_any {P : Program} {d : Bool} {dst : Option Tmp} {x : NF} {s : SS} {K : SS → Heap → Own → Prop} {H : Heap} {O : Own} (hx : x.isHv = false) (h : x.run P d dst s K H O) : ∃ s' H' O', K s' H' O' := by
 cases x with
 | fl cs k X => obtain ⟨h1, vs, h2, h3⟩ := h; exact ⟨_, _, _, h3⟩
 | box cs n T cells val => exact ⟨_, _, _, h.2 0⟩
 | stb cs n b => exact ⟨_, _, _, h.2⟩
 | hv cs k frz own shp post sv => simp [NF.isHv] at hx
 | st cs p vs => obtain ⟨h1, O', h2, h3⟩ := h; exact ⟨_, _, _, h3⟩
theorem uY {c : RC} {K : SS → Heap → Own → Prop} {i : Nat} {o : Oper} {l2 : List (Nat × Oper)} : ∀ {l1 : List (Nat × Oper)} {log : List Ent} {s : SS} {H : Heap} {O : Own},
  RR c true K (l1 ++ (i, o) :: l2) log s H O → (∀ e ∈ l1, o7 c.tab e.1 i = false) → (∀ e ∈ l1 ++ l2, e.1 ≠ i) →
  ∃ y fy, c.N i o s = some (y, fy) ∧ mn c.ops c.tab i o y fy log = true ∧ y.run c.P (true && dAt c.tab i log) o.dst s (RR c true K (l1 ++ l2) log) H O
 | [], log, s, H, O, ⟨x, fp, hx, hc, hr⟩, _, _ =>
  ⟨x, fp, hx, (hc rfl).1, NF.run_mono (fun _ _ _ hk => s8 (fun e he => by simp [he]) hk) hr⟩
 | (a, oa) :: l1, log, s, H, O, ⟨x, fp, hx, hc, hr⟩, ho, hne => by
  obtain ⟨hc1, hc2⟩ := hc rfl
  have hoa : o7 c.tab a i = false := ho (a, oa) (by simp)
  have hr' := NF.run_mono (fun s' H' O' hk => uY (l1 := l1) hk (fun e he => ho e (by simp [he])) (fun e he => hne e (by simp only [List.cons_append, List.mem_cons]; exact .inr he))) hr
  have hlog : ∀ {y : NF} {fy : FP}, mn c.ops c.tab i o y fy (⟨a, oa, x, fp⟩ :: log) = true → jB x fp y fy = true ∧ Oper.apart c.ops oa o = true ∧ mn c.ops c.tab i o y fy log = true := by
   intro y fy h
   refine ⟨?_, ?_, nE (fun e he => by simp [he]) h⟩
   all_goals
    unfold mn at h
    rw [List.all_cons, Bool.and_eq_true] at h
    have := h.1
    simp only [hoa, Bool.false_or, Bool.and_eq_true] at this
   ·exact this.1
   ·exact this.2
  have hmem : (i, o) ∈ l1 ++ (i, o) :: l2 := by simp
  have hap : Oper.apart c.ops oa o = true := by
   cases hh : x.isHv with
   | true => obtain ⟨_, _, _, _, h2, _⟩ := (j9.1 hc2) hh (i, o) hmem hoa; exact h2
   | false => obtain ⟨_, _, _, y, fy, _, hl, _⟩ := NF.run_any hh hr'; exact (hlog hl).2.1
  obtain ⟨p1, p2, p3⟩ := Oper.apart_spec hap
  have := swap (P := c.P) (c.cong a oa) (c.cong i o) p1 p2 p3 hx (dx := fun _ => true && dAt c.tab a log) (dy := fun _ => true && dAt c.tab i (⟨a, oa, x, fp⟩ :: log)) (fun hl _ => by rw [Bool.true_and, dAt, List.any_cons]; simp [hoa, hl]) (C := fun y fy => mn c.ops c.tab i o y fy log = true) (K := RR c true K (l1 ++ l2) (⟨a, oa, x, fp⟩ :: log)) (H := H) (O := O) ?_ ?_
  ·obtain ⟨y, fy, hy, he, hC, hrun⟩ := this
   refine ⟨y, fy, hy, hC, NF.run_le (Bo fun e he => List.mem_cons_of_mem _ he) <| NF.run_mono (fun s' H' O' ⟨h1, h2, h3⟩ => ⟨x, fp, h1, fun _ => ⟨hc1, ?_⟩, h3⟩) hrun⟩
   refine xG hc2 hmem hoa hy h2 (fun e he => ⟨?_, hne e (by simp only [List.cons_append, List.mem_cons]; exact .inr he)⟩)
   exact List.mem_append.2 ((List.mem_append.1 he).imp id (List.mem_cons_of_mem _))
  ·intro hx'
   obtain ⟨y, fy, hy, h1, _, h3, _⟩ := (j9.1 hc2) hx' (i, o) hmem hoa
   exact ⟨y, fy, hy, h1, h3⟩
  ·exact NF.run_mono (fun s' H' O' ⟨y, fy, hy, hl, hrun⟩ => ⟨y, fy, hy, (hlog hl).1, (hlog hl).2.2, hrun⟩) hr'
theorem sj {l1 l2 : List Nat} {a : Nat} : (l1 ++ a :: l2).Nodup ↔ (a :: (l1 ++ l2)).Nodup := List.perm_middle.nodup_iff
def TopoP (L : Nat → Prop) : List (Nat × Oper) → Prop
 | [] => True
 | (i, o) :: r => (∀ p ∈ dr o, L p) ∧ TopoP (fun p => L p ∨ p = i) r
theorem TopoP.mono : ∀ {l : List (Nat × Oper)} {L L' : Nat → Prop}, (∀ p, L p → L' p) → TopoP L l → TopoP L' l
 | [], _, _, _, _ => trivial
 | (_, _) :: _, _, _, h, ⟨h1, h2⟩ => ⟨fun p hp => h p (h1 p hp), TopoP.mono (fun p hp => hp.imp (h p) id) h2⟩
theorem TopoP.drop {i : Nat} {o : Oper} {l2 : List (Nat × Oper)} : ∀ {l1 : List (Nat × Oper)} {L : Nat → Prop}, TopoP L (l1 ++ (i, o) :: l2) → TopoP (fun p => L p ∨ p = i) (l1 ++ l2)
 | [], _, h => h.2
 | (j, oj) :: r, L, ⟨h1, h2⟩ => ⟨fun p hp => .inl (h1 p hp), TopoP.mono (fun p hp => by
   rcases hp with (h | h) | h
   ·exact .inl (.inl h)
   ·exact .inr h
   ·exact .inl (.inr h)) (TopoP.drop (l1 := r) h2)⟩
structure Inv (c : RC) (L : Array Bool) (l : List (Nat × Oper)) : Prop where
 sz : L.size = c.ops.size
 pend : ∀ i, L.getD i true = false ↔ ∃ o, (i, o) ∈ l
 op : ∀ i o, (i, o) ∈ l → c.ops[i]? = some o
 nd : (l.map (·.1)).Nodup
 topo : TopoP (fun i => L.getD i false = true) l
 closed : ∀ i j, L.getD i false = true → o7 c.tab j i = true → L.getD j false = true
def EU (c : RC) : Prop := ∀ i j o, o7 c.tab j i = true → c.ops[i]? = some o → j ∈ dr o ∨ ∃ p ∈ dr o, o7 c.tab j p = true
theorem j4 {o : Oper} {p : Nat} : p ∈ dr o ↔ ∃ e ∈ o.after, Region.binds .any e = true ∧ e.on = p := by
 unfold dr
 simp only [List.mem_filterMap, Array.mem_toList_iff]
 constructor
 ·rintro ⟨e, he, h⟩
  split at h
  ·rename_i hb; exact ⟨e, he, hb, by simpa using h⟩
  ·simp at h
 ·rintro ⟨e, he, hb, rfl⟩
  exact ⟨e, he, by simp [hb]⟩
theorem Inv.step {c : RC} {L : Array Bool} {l1 l2 : List (Nat × Oper)} {i : Nat} {o : Oper} (hT : EU c) (h : Inv c L (l1 ++ (i, o) :: l2)) (hr : ∀ p ∈ dr o, L.getD p false = true) :
  Inv c (L.setIfInBounds i true) (l1 ++ l2) := by
 have hi : c.ops[i]? = some o := h.op i o (by simp)
 have hlt : i < L.size := by rw [h.sz]; exact (Array.getElem?_eq_some_iff.1 hi).1
 have hself : ∀ d, (L.setIfInBounds i true).getD i d = true := by intro d; simp [hlt]
 have hnd := h.nd
 rw [List.map_append, List.map_cons, sj] at hnd
 obtain ⟨hni, hnd⟩ := List.nodup_cons.1 hnd
 refine ⟨by simp [h.sz], fun k => ?_, fun k o' hk => ?_, ?_, ?_, fun k j hk ho => ?_⟩
 ·by_cases e : i = k
  ·subst e
   rw [hself]
   constructor
   ·intro h; cases h
   ·rintro ⟨o', ho'⟩
    exact (hni (by rw [← List.map_append]; exact List.mem_map.2 ⟨_, ho', rfl⟩)).elim
  ·rw [getD_set_ne true e, h.pend]
   constructor
   ·rintro ⟨o', ho'⟩
    refine ⟨o', ?_⟩
    simp only [List.mem_append, List.mem_cons, Prod.mk.injEq] at ho' ⊢
    rcases ho' with h | ⟨rfl, _⟩ | h
    ·exact .inl h
    ·exact (e rfl).elim
    ·exact .inr h
   ·rintro ⟨o', ho'⟩
    refine ⟨o', ?_⟩
    simp only [List.mem_append, List.mem_cons] at ho' ⊢
    exact ho'.imp id .inr
 ·refine h.op k o' ?_
  simp only [List.mem_append, List.mem_cons] at hk ⊢
  exact hk.imp id .inr
 ·rw [List.map_append]; exact hnd
 ·refine TopoP.mono ?_ h.topo.drop
  rintro p (hp | rfl)
  ·exact getD_set_true hp
  ·exact hself _
 ·by_cases e : i = k
  ·subst e
   rcases hT i j o ho hi with h1 | ⟨p, hp, h1⟩
   ·exact getD_set_true (hr j h1)
   ·exact getD_set_true (h.closed p j (hr p hp) h1)
  ·rw [getD_set_ne false e] at hk
   exact getD_set_true (h.closed k j hk ho)
theorem Inv.unlisted {c : RC} {L : Array Bool} {l : List (Nat × Oper)} (h : Inv c L l) {i : Nat} {o : Oper} (hi : (i, o) ∈ l) : L.getD i false = false := by
 have h1 := (h.pend i).2 ⟨o, hi⟩
 have hlt : i < L.size := by rw [h.sz]; exact (Array.getElem?_eq_some_iff.1 (h.op i o hi)).1
 simpa [Array.getD, hlt] using h1
theorem s6 {c : RC} (hT : EU c) (hokf : ∀ f, c.okf f = true → gU c.P f) {F : Own} {K : SS → Heap → Own → Prop} {Q : Exit → Act → World → Prop} : ∀ (n : Nat) {l : List (Nat × Oper)} {fuel : Nat} {L : Array Bool} {s : SS} {H : Heap} {O : Own} {a : Act} {w : World},
  l.length = n → n ≤ fuel → Inv c L l → Conc F s H O a w → RR c true K l [] s H O →
  (∀ s' H' O' a' w', Conc F s' H' O' a' w' → Heap.le H H' → K s' H' O' → Q .normal a' w') → wpAny c.P .any c.ops Q fuel L a w := by
 intro n
 induction n with
 | zero =>
  intro l fuel L s H O a w hl hf hI hC hR hK
  have : l = [] := List.eq_nil_of_length_eq_zero hl
  subst this
  refine wpAny_done ?_ (hK s H O a w hC (Heap.le_refl H) hR) fuel
  refine List.eq_nil_iff_forall_not_mem.2 fun i hi => ?_
  obtain ⟨o, ho⟩ := (hI.pend i).1 (mem_ready.1 hi).1
  simp at ho
 | succ n ih =>
  intro l fuel L s H O a w hl hf hI hC hR hK
  cases fuel with
  | zero => omega
  | succ f =>
   refine ⟨fun h0 => ?_, fun i hi => ?_⟩
   ·exfalso
    match l, hl with
    | (i, o) :: r, _ =>
     have : i ∈ Region.ready .any c.ops L := by
      refine mem_ready.2 ⟨(hI.pend i).2 ⟨o, by simp⟩, o, hI.op i o (by simp), fun e he hb => ?_⟩
      exact hI.topo.1 e.on (j4.2 ⟨e, he, hb, rfl⟩)
     rw [h0] at this; simp at this
   ·obtain ⟨hun, o, ho, hall⟩ := mem_ready.1 hi
    obtain ⟨o', hmem⟩ := (hI.pend i).1 hun
    have : o' = o := by have := hI.op i o' hmem; rw [ho] at this; exact (Option.some.inj this).symm
    subst this
    obtain ⟨l1, l2, rfl⟩ := List.append_of_mem hmem
    have hpr : ∀ p ∈ dr o', L.getD p false = true := by
     intro p hp
     obtain ⟨e, he, hb, rfl⟩ := j4.1 hp
     exact hall e he hb
    have hnd := hI.nd
    rw [List.map_append, List.map_cons, sj] at hnd
    have hni := (List.nodup_cons.1 hnd).1
    obtain ⟨y, fy, hy, _, hrun⟩ := uY hR (fun e he => by
     cases hoe : o7 c.tab e.1 i with
     | false => rfl
     | true =>
      exfalso
      have hu : L.getD e.1 false = false := hI.unlisted (o := e.2) (by simp [he])
      rcases hT i e.1 o' hoe ho with h1 | ⟨p, hp, h1⟩
      ·rw [hpr _ h1] at hu; cases hu
      ·rw [hI.closed p e.1 (hpr p hp) h1] at hu; cases hu) (fun e he hei => hni (by rw [← List.map_append]; exact List.mem_map.2 ⟨_, he, hei⟩))
    have hs := j1 hokf hy F H O a w _ _ Q hC hrun
    have hwp : wpOp c.P c.ops Q i (fun a' w' => ∃ s' H' O', Conc F s' H' O' a' w' ∧ Heap.le H H' ∧ RR c true K (l1 ++ l2) [] s' H' O') a w := by
     unfold wpOp
     rw [ho]
     exact hs
    refine wpOp_mono ?_ hwp
    rintro a' w' ⟨s', H', O', hC', hle, hR'⟩
    refine ih (l := l1 ++ l2) ?_ (by omega) (hI.step hT hpr) hC' hR' (fun s2 H2 O2 a2 w2 h1 h2 h3 => hK s2 H2 O2 a2 w2 h1 (Heap.le_trans hle h2) h3)
    simp only [List.length_append, List.length_cons] at hl ⊢; omega
theorem f9 (d i k : Nat) : (d ||| 1 <<< i).testBit k = (d.testBit k || decide (i = k)) := by
 rw [Nat.testBit_or, Nat.one_shiftLeft, Nat.testBit_two_pow]
theorem sC {d : Nat} {o : Oper} (h : qU d o = true) : ∀ p ∈ dr o, d.testBit p = true := by
 unfold qU at h; rw [List.all_eq_true] at h; exact h
theorem jQ {n : Nat} : ∀ {l : List (Nat × Oper)} {d : Nat}, topo n d l = true →
  (∀ i, i < n ↔ (d.testBit i = true ∨ ∃ o, (i, o) ∈ l)) ∧ (l.map (·.1)).Nodup ∧ (∀ i o, (i, o) ∈ l → d.testBit i = false) ∧ TopoP (fun p => d.testBit p = true) l
 | [], d, h => by
  simp only [topo, beq_iff_eq] at h
  subst h
  refine ⟨fun i => ?_, by simp, by simp, trivial⟩
  simp [Nat.testBit_two_pow_sub_one]
 | (i, o) :: r, d, h => by
  simp only [topo, Bool.and_eq_true, Bool.not_eq_true'] at h
  obtain ⟨⟨h1, h2⟩, h3⟩ := h
  obtain ⟨a, b, e, f⟩ := jQ h3
  refine ⟨fun k => ?_, ?_, fun k o' hk => ?_, fun p hp => sC h2 p hp, f.mono fun p hp => ?_⟩
  ·rw [a k, f9]
   simp only [Bool.or_eq_true, decide_eq_true_eq, List.mem_cons, Prod.mk.injEq]
   constructor
   ·rintro ((h | rfl) | ⟨o', h⟩)
    ·exact .inl h
    ·exact .inr ⟨o, .inl ⟨rfl, rfl⟩⟩
    ·exact .inr ⟨o', .inr h⟩
   ·rintro (h | ⟨o', ⟨rfl, _⟩ | h⟩)
    ·exact .inl (.inl h)
    ·exact .inl (.inr rfl)
    ·exact .inr ⟨o', h⟩
  ·rw [List.map_cons, List.nodup_cons]
   refine ⟨fun hm => ?_, b⟩
   obtain ⟨p, hp, hpi⟩ := List.mem_map.1 hm
   have := e p.1 p.2 hp
   rw [f9] at this
   simp [hpi] at this
  ·rcases List.mem_cons.1 hk with hk | hk
   ·simp only [Prod.mk.injEq] at hk; rw [hk.1]; exact h1
   ·have := e k o' hk
    rw [f9] at this
    simp only [Bool.or_eq_false_iff] at this
    exact this.1
  ·rw [f9] at hp
   rw [Bool.or_eq_true, decide_eq_true_eq] at hp
   exact hp.imp id Eq.symm
theorem hU : ∀ (n : Nat) (l : List Nat), l.Nodup → (∀ i ∈ l, i < n) → l.length ≤ n
 | 0, [], _, _ => by simp
 | 0, a :: _, _, h => by have := h a (by simp); omega
 | n + 1, l, hn, h => by
  by_cases hm : n ∈ l
  ·have h1 := hU n (l.erase n) (hn.erase n) fun i hi => by
    obtain ⟨h2, h3⟩ := (List.Nodup.mem_erase_iff hn).1 hi
    have := h i h3; omega
   rw [List.length_erase_of_mem hm] at h1
   omega
  ·have := hU n l hn fun i hi => by
    have := h i hi
    have : i ≠ n := fun e => hm (e ▸ hi)
    omega
   omega
theorem gv {d k : Nat} : ∀ {l : List (Nat × Oper)} {e : Nat × Oper}, gw d k l = some e → e ∈ l
 | [], _, h => by simp [gw] at h
 | (i, o) :: r, e, h => by
  simp only [gw] at h
  split at h
  ·simp only [Option.some.injEq] at h; simp [h]
  ·exact List.mem_cons_of_mem _ (gv h)
theorem ol {i : Nat} : ∀ {l : List (Nat × Oper)} {e : Nat × Oper}, e ∈ om i l → e ∈ l
 | [], _, h => by simp [om] at h
 | (j, o) :: r, e, h => by
  simp only [om] at h
  split at h
  ·simp [h]
  ·rcases List.mem_cons.1 h with h | h
   ·simp [h]
   ·exact List.mem_cons_of_mem _ (ol h)
theorem gh : ∀ {fuel d : Nat} {l : List (Nat × Oper)} {e : Nat × Oper}, e ∈ b6 fuel d l → e ∈ l
 | 0, _, _, _, h => by simpa [b6] using h
 | fuel + 1, d, l, e, h => by
  simp only [b6] at h
  split at h
  ·exact h
  ·rename_i i o hf
   rcases List.mem_cons.1 h with h | h
   ·subst h
    cases h0 : gw d 0 l with
    | some x => rw [h0] at hf; simp at hf; subst hf; exact gv h0
    | none =>
     cases h1 : gw d 1 l with
     | some x => rw [h0, h1] at hf; simp at hf; subst hf; exact gv h1
     | none => rw [h0, h1] at hf; simp at hf; exact gv hf
   ·exact ol (gh h)
theorem fe {α : Type} : ∀ {l : List α} {n : Nat} {e : Nat × α}, e ∈ aw n l → n ≤ e.1 ∧ l[e.1 - n]? = some e.2
 | [], _, _, h => by simp [aw] at h
 | a :: r, n, e, h => by
  rcases List.mem_cons.1 h with h | h
  ·subst h; simp
  ·obtain ⟨h1, h2⟩ := fe h
   refine ⟨by omega, ?_⟩
   rw [show e.1 - n = (e.1 - (n + 1)) + 1 by omega]
   simpa using h2
theorem nM {tab : List (Nat × Nat)} {j : Nat} : ∀ {ps : List Nat}, (pB tab ps).testBit j = true → j ∈ ps ∨ ∃ p ∈ ps, (dN tab p).testBit j = true
 | [], h => by simp [pB] at h
 | p :: r, h => by
  simp only [pB, Nat.testBit_or, Bool.or_eq_true, Nat.one_shiftLeft, Nat.testBit_two_pow, decide_eq_true_eq] at h
  rcases h with (h | h) | h
  ·exact .inl (by simp [h])
  ·exact .inr ⟨p, by simp, h⟩
  ·rcases nM h with h | ⟨q, hq, h⟩
   ·exact .inl (by simp [h])
   ·exact .inr ⟨q, by simp [hq], h⟩
theorem eX : ∀ {l : List (Nat × Oper)} {tab : List (Nat × Nat)} {L : Nat → Prop}, (l.map (·.1)).Nodup → (∀ i o, (i, o) ∈ l → ¬ L i) → TopoP L l →
  (∀ p, (∀ o, (p, o) ∉ l) → dN (cq l tab) p = dN tab p) ∧
  ∀ i o j, (i, o) ∈ l → (dN (cq l tab) i).testBit j = true → j ∈ dr o ∨ ∃ p ∈ dr o, (dN (cq l tab) p).testBit j = true
 | [], tab, L, _, _, _ => ⟨fun _ _ => rfl, fun i o j h => by simp at h⟩
 | (i, o) :: r, tab, L, hn, hL, hT => by
  rw [List.map_cons, List.nodup_cons] at hn
  have hir : ∀ o', (i, o') ∉ r := fun o' ho => hn.1 (List.mem_map.2 ⟨_, ho, rfl⟩)
  obtain ⟨h1, h2⟩ := eX (l := r) (tab := (i, pB tab (dr o)) :: tab) (L := fun p => L p ∨ p = i) hn.2 (fun k o' hk => by
   rintro (h | rfl)
   ·exact hL k o' (by simp [hk]) h
   ·exact hir o' hk) hT.2
  have hnot : ∀ p, L p → ∀ o', (p, o') ∉ (i, o) :: r := fun p hp o' ho => hL p o' ho hp
  have hl : ∀ p, L p → dN (cq ((i, o) :: r) tab) p = dN tab p := by
   intro p hp
   have hpi : i ≠ p := fun e => hnot p hp o (by simp [e])
   have := h1 p (fun o' ho => hnot p hp o' (by simp [ho]))
   simp only [cq]
   rw [this]
   simp [dN, hpi]
  refine ⟨fun p hp => ?_, fun k o' j hk hb => ?_⟩
  ·have hpi : i ≠ p := fun e => hp o (by simp [e])
   have := h1 p (fun o' ho => hp o' (by simp [ho]))
   simp only [cq]
   rw [this]
   simp [dN, hpi]
  ·rcases List.mem_cons.1 hk with hk | hk
   ·simp only [Prod.mk.injEq] at hk
    obtain ⟨rfl, rfl⟩ := hk
    have := h1 k hir
    simp only [cq] at hb
    rw [this] at hb
    simp only [dN, if_true] at hb
    rcases nM hb with h | ⟨p, hp, h⟩
    ·exact .inl h
    ·exact .inr ⟨p, hp, by rw [hl p (hT.1 p hp)]; exact h⟩
   ·simp only [cq] at hb ⊢
    exact h2 k o' j hk hb
theorem jp {c : RC} (hokf : ∀ f, c.okf f = true → gU c.P f) {F : Own} {K : SS → Heap → Own → Prop} {Q : Exit → Act → World → Prop} : ∀ (l : List (Nat × Oper)) {log : List Ent} {s : SS} {H : Heap} {O : Own} {a : Act} {w : World},
  (∀ e ∈ l, c.ops[e.1]? = some e.2) → Conc F s H O a w → RR c false K l log s H O →
  (∀ s' H' O' a' w', Conc F s' H' O' a' w' → Heap.le H H' → K s' H' O' → Q .normal a' w') → wpOps c.P c.ops Q (l.map (·.1)) a w
 | [], _, s, H, O, a, w, _, hC, hR, hK => hK s H O a w hC (Heap.le_refl H) hR
 | (i, o) :: r, log, s, H, O, a, w, ho, hC, ⟨y, fy, hy, _, hrun⟩, hK => by
  have hs := j1 hokf hy F H O a w _ _ Q hC hrun
  rw [List.map_cons, wpOps_cons]
  have hwp : wpOp c.P c.ops Q i (fun a' w' => ∃ s' H' O', Conc F s' H' O' a' w' ∧ Heap.le H H' ∧ RR c false K r log s' H' O') a w := by
   unfold wpOp
   rw [ho (i, o) (by simp)]
   exact hs
  refine wpOp_mono ?_ hwp
  rintro a' w' ⟨s', H', O', hC', hle, hR'⟩
  exact jp hokf r (fun e he => ho e (by simp [he])) hC' hR' (fun s2 H2 O2 a2 w2 h1 h2 h3 => hK s2 H2 O2 a2 w2 h1 (Heap.le_trans hle h2) h3)
theorem ff {α : Type} : ∀ (l : List α) (n : Nat), (aw n l).map (·.1) = (List.range' n l.length)
 | [], _ => rfl
 | a :: r, n => by rw [aw, List.map_cons, ff r (n + 1), List.length_cons, List.range'_succ]
theorem Conc.drew {F : Own} {s : SS} {H : Heap} {O : Own} {a : Act} {w : World} (h : Conc F s H O a w) (n : Nat) : Conc F s H O a { w with drawn := n } :=
 ⟨h.ok, h.df, h.sz, h.tm, let ⟨L, h1, h2⟩ := h.mm; ⟨L, h1, h2.same rfl rfl⟩⟩
theorem Conc.next {F : Own} {s : SS} {H : Heap} {O : Own} {a : Act} {w : World} (h : Conc F s H O a w) (n : Nat) : Conc F { s with next := n } H O a w :=
 ⟨h.ok, h.df, h.sz, h.tm, h.mm⟩
theorem rX {P : Program} (hm : P.follows .mixedOrders = true) {okf : FuncId → Bool} (hokf : ∀ f, okf f = true → gU P f) {rules : FuncId → Option (List Nat)} {id : Nat} {ops : Array Oper} {draw : Bool} {s : SS} {kk : SS → Tree}
  {QT : Value → Heap → Own → Prop} {F : Own} {H : Heap} {O : Own} {a : Act} {w : World} {Q : Exit → Act → World → Prop}
  (h : (fK P okf rules ops draw s kk).den P QT H O) (hC : Conc F s H O a w)
  (hK : ∀ s' H' O' a' w', Conc F s' H' O' a' w' → Heap.le H H' → (kk s').den P QT H' O' → Q .normal a' w') : (Code.region id ops draw).wp P Q a w := by
 unfold fK at h
 simp only [] at h
 have hops : ∀ e ∈ aw 0 ops.toList, ops[e.1]? = some e.2 := by
  intro e he
  have := (fe he).2
  simpa using this
 cases draw with
 | true =>
  simp only [if_true] at h
  split at h
  ·rename_i ht
   have hR := s9 (c := ⟨P, okf, rules, ops, cq (b6 ops.size 0 (aw 0 ops.toList)) [], cw (aw 0 ops.toList), s.next⟩) h
   obtain ⟨t1, t2, t3, t4⟩ := jQ ht
   have hop : ∀ i o, (i, o) ∈ b6 ops.size 0 (aw 0 ops.toList) → ops[i]? = some o := fun i o hi => hops (i, o) (gh hi)
   refine wp_region_any hm ?_
   refine s6 (c := ⟨P, okf, rules, ops, cq (b6 ops.size 0 (aw 0 ops.toList)) [], cw (aw 0 ops.toList), s.next⟩) ?_ hokf (b6 ops.size 0 (aw 0 ops.toList)).length rfl ?_ ?_ (hC.drew _) hR ?_
   ·intro i j o ho hi
    have hlt : i < ops.size := (Array.getElem?_eq_some_iff.1 hi).1
    obtain ⟨o', ho'⟩ := ((t1 i).1 hlt).resolve_left (by simp)
    have : o' = o := by have := hop i o' ho'; simp only [] at hi; rw [hi] at this; exact (Option.some.inj this).symm
    subst this
    exact (eX (tab := []) t2 (fun _ _ h => by simp [t3 _ _ h]) t4).2 i o' j ho' ho
   ·have := hU ops.size _ t2 (fun i hi => by
     obtain ⟨e, he, rfl⟩ := List.mem_map.1 hi
     exact (t1 e.1).2 (.inr ⟨e.2, he⟩))
    simpa using this
   ·refine ⟨by simp, fun i => ?_, hop, t2, t4.mono (by simp), fun i j hi => ?_⟩
    ·rw [show ((Array.replicate ops.size false).getD i true = false) ↔ i < ops.size by
      by_cases hlt : i < ops.size <;> simp [Array.getD, hlt]]
     rw [t1]; simp
    ·exfalso
     by_cases hlt : i < ops.size <;> simp [Array.getD, hlt] at hi
   ·intro s' H' O' a' w' h1 h2 h3
    exact hK _ H' O' a' w' (h1.next _) h2 h3
  ·exact h.elim
 | false =>
  simp only [Bool.false_eq_true, if_false] at h
  have hR := s9 (c := ⟨P, okf, rules, ops, [], cw (aw 0 ops.toList), s.next⟩) h
  refine wp_region ?_
  have := jp (c := ⟨P, okf, rules, ops, [], cw (aw 0 ops.toList), s.next⟩) (Q := Q) hokf (aw 0 ops.toList) hops hC hR (fun s' H' O' a' w' h1 h2 h3 => hK _ H' O' a' w' (h1.next _) h2 h3)
  rw [ff] at this
  rw [List.range_eq_range']
  simpa using this
theorem FH {G : Type} (I : G → Prop) (μ : G → Nat) : ∀ (n : Nat) (g : G), I g → μ g ≤ n → ∃ m, (∃ g, I g ∧ μ g = m) ∧ ∀ g, I g → m ≤ μ g
 | 0, g, h, hn => ⟨0, ⟨g, h, by omega⟩, fun _ _ => Nat.zero_le _⟩
 | n + 1, g, h, hn => by
  by_cases hx : ∃ g', I g' ∧ μ g' ≤ n
  ·obtain ⟨g', h1, h2⟩ := hx
   exact FH I μ n g' h1 h2
  ·refine ⟨μ g, ⟨g, h, rfl⟩, fun g' hg' => ?_⟩
   have : ¬ μ g' ≤ n := fun hl => hx ⟨g', hg', hl⟩
   omega
theorem f6 {P : Program} {c : Code} {Q : Exit → Act → World → Prop} {G : Type} (I : G → Act → World → Prop) (μ : G → Nat) {g0 : G} {a : Act} {w : World} (h0 : I g0 a w)
  (round : ∀ g a w, I g a w → c.wp P (Exit.then (fun a' w' => ∃ g', I g' a' w' ∧ μ g' < μ g) Q) a w) : (Code.loop c).wp P Q a w := by
 let m : Act → World → Nat := fun a w => Classical.epsilon fun n => (∃ g, I g a w ∧ μ g = n) ∧ ∀ g, I g a w → n ≤ μ g
 have hm : ∀ a w, (∃ g, I g a w) → (∃ g, I g a w ∧ μ g = m a w) ∧ ∀ g, I g a w → m a w ≤ μ g := by
  rintro a w ⟨g, hg⟩
  exact Classical.epsilon_spec (FH (fun g => I g a w) μ (μ g) g hg (Nat.le_refl _))
 refine wp_loop (fun a w => ∃ g, I g a w) m ⟨g0, h0⟩ fun a w hI => ?_
 obtain ⟨⟨g, hg, hgm⟩, _⟩ := hm a w hI
 refine wp_mono (round g a w hg) fun e a' w' hq => ?_
 cases e with
 | normal =>
  obtain ⟨g', hg', hlt⟩ := hq
  refine ⟨⟨g', hg'⟩, ?_⟩
  have := (hm a' w' ⟨g', hg'⟩).2 g' hg'
  show m a' w' < m a w
  omega
 | _ => exact hq
theorem Conc.cons {F : Own} {s : SS} {H : Heap} {O : Own} {a : Act} {w : World} (h : Conc F s H O a w) : Cons H O :=
 let ⟨L, _, hm⟩ := h.mm; ⟨w, L ++ F, hm.perm (List.perm_append_comm_assoc _ _ _)⟩
theorem Conc.ghost {F : Own} {s : SS} {H H' : Heap} {O O' : Own} {a : Act} {w : World} (h : Conc F s H O a w) (hg : Ghost H O H' O') : Conc F s H' O' a w ∧ Heap.le H H' := by
 obtain ⟨L, hL, hm⟩ := h.mm
 have h1 : Models w H (O ++ (L ++ F)) := hm.perm (List.perm_append_comm_assoc _ _ _)
 obtain ⟨h2, hle⟩ := hg w _ h1
 exact ⟨⟨h.ok, h.df, h.sz, h.tm, L, hL, h2.perm (List.perm_append_comm_assoc _ _ _)⟩, hle⟩
theorem CellsRel.iff : ∀ {cs : List At} {vs : List Value}, CellsRel cs vs ↔ cs.length = vs.length ∧ ∀ (j : Nat) (a : At) (v : Value), cs[j]? = some a → vs[j]? = some v → a.known = true → v = a.den
 | [], [] => by simp [CellsRel]
 | [], _ :: _ => by simp [CellsRel]
 | _ :: _, [] => by simp [CellsRel]
 | a :: r, v :: vs => by
  simp only [CellsRel, CellsRel.iff (cs := r) (vs := vs), List.length_cons, Nat.add_right_cancel_iff]
  constructor
  ·rintro ⟨h1, h2, h3⟩
   refine ⟨h2, fun j x y hx hy hk => ?_⟩
   cases j with
   | zero => simp at hx hy; subst hx; subst hy; exact h1 hk
   | succ j => exact h3 j x y (by simpa using hx) (by simpa using hy) hk
  ·rintro ⟨h1, h2⟩
   exact ⟨fun hk => h2 0 a v rfl rfl hk, h1, fun j x y hx hy hk => h2 (j + 1) x y (by simpa using hx) (by simpa using hy) hk⟩
theorem jP {vs : List Value} : ∀ {cells : List Nat} {cs : List At} {i : Nat}, (eC cs vs cells i).length = cs.length
 | [], _, _ => rfl
 | c :: r, cs, i => by rw [eC, jP]; simp
theorem f7 {vs : List Value} : ∀ {cells : List Nat} {cs : List At} {i j : Nat} {a : At}, (eC cs vs cells i)[j]? = some a →
  (∃ p, cells[p]? = some j ∧ a = .v (g vs (i + p))) ∨ (cs[j]? = some a ∧ j ∉ cells)
 | [], cs, i, j, a, h => .inr ⟨h, by simp⟩
 | c :: r, cs, i, j, a, h => by
  rw [eC] at h
  rcases f7 h with ⟨p, hp, ha⟩ | ⟨h1, h2⟩
  ·exact .inl ⟨p + 1, by simpa using hp, by rw [ha]; congr 2; omega⟩
  ·by_cases e : c = j
   ·subst e
    left
    refine ⟨0, by simp, ?_⟩
    have hlt : c < cs.length := by
     rcases Nat.lt_or_ge c cs.length with h | h
     ·exact h
     ·rw [List.getElem?_eq_none (by simpa using h)] at h1; cases h1
    rw [List.getElem?_set_self hlt] at h1
    simpa using h1.symm
   ·right
    rw [List.getElem?_set_ne e] at h1
    exact ⟨h1, by simp; exact ⟨fun h => e h.symm, h2⟩⟩
theorem lp : ∀ {l : List Nat} {t i : Nat}, qX l t = some i → l[i]? = some t
 | [], _, _, h => by simp [qX] at h
 | a :: r, t, i, h => by
  simp only [qX] at h
  split at h
  ·rename_i e; simp only [Option.some.injEq] at h; subst h; simp [e]
  ·simp only [Option.map_eq_some_iff] at h
   obtain ⟨k, hk, rfl⟩ := h
   simpa using lp hk
theorem gu {a b : List Value} {i : Nat} (h : i < a.length) : g (a ++ b) i = g a i := by
 simp [g, List.getD, List.getElem?_append_left h]
theorem fD {a b : List Value} {i : Nat} : g (a ++ b) (a.length + i) = g b i := by
 simp only [g, List.getD]
 rw [List.getElem?_append_right (by omega), Nat.add_sub_cancel_left]
theorem Ez {l : List Value} {i : Nat} {v : Value} (h : l[i]? = some v) : g l i = v := by simp [g, List.getD, h]
def ix (s : SS) (x : Nat × Bx × List Nat × Nat) : List Value :=
 match s.mem x.1 with | some b => x.2.2.1.map fun c => (b.cs.getD c .any).den | none => []
theorem gq (s : SS) (carry : List Nat) (hb : List (Nat × Bx × List Nat × Nat)) : bF s carry hb = carry.map (fun t => (vU s t).den) ++ hb.flatMap (ix s) := rfl
theorem oC {s : SS} : ∀ {hb : List (Nat × Bx × List Nat × Nat)} {q : Nat} {pre : List Value}, vm q hb = true → pre.length = q → (∀ x ∈ hb, (s.mem x.1).isSome = true) →
  ∀ n b cells i, (n, b, cells, i) ∈ hb → ∀ b', s.mem n = some b' → ∀ p c, cells[p]? = some c → g (pre ++ hb.flatMap (ix s)) (i + p) = (b'.cs.getD c .any).den
 | [], _, _, _, _, _, n, b, cells, i, h, _, _, _, _, _ => by simp at h
 | (n', b0, cells', i') :: r, q, pre, hp, hl, hs, n, b, cells, i, h, b', hb', p, c, hc => by
  simp only [vm, Bool.and_eq_true, beq_iff_eq] at hp
  obtain ⟨hi', hp⟩ := hp
  obtain ⟨b1, hb1⟩ := Option.isSome_iff_exists.1 (hs (n', b0, cells', i') (by simp))
  simp only [] at hb1
  have hv : ix s (n', b0, cells', i') = cells'.map fun c => (b1.cs.getD c .any).den := by simp only [ix, hb1]
  rw [List.flatMap_cons, ← List.append_assoc]
  rcases List.mem_cons.1 h with h | h
  ·simp only [Prod.mk.injEq] at h
   obtain ⟨rfl, rfl, rfl, rfl⟩ := h
   rw [hb1] at hb'
   simp only [Option.some.injEq] at hb'; subst hb'
   have hlt : p < cells.length := (List.getElem?_eq_some_iff.1 hc).1
   rw [gu (by rw [List.length_append, hv, List.length_map]; omega), hv, hi', ← hl, fD]
   exact Ez (by simp [hc])
  ·exact oC (pre := pre ++ ix s (n', b0, cells', i')) hp (by rw [hv]; simp [hl]) (fun x hx => hs x (by simp [hx])) n b cells i h b' hb' p c hc
theorem Boxes.sub {m m2 : Nat → Option Bx} {L : Own} (h : Boxes m L) (hs : ∀ n b2, m2 n = some b2 → ∃ b, m n = some b ∧ b.r = b2.r ∧ b.T = b2.T ∧ ∀ vs, CellsRel b.cs vs → CellsRel b2.cs vs) :
  ∃ L2 L3, Boxes m2 L2 ∧ L.Perm (L2 ++ L3) := by
 obtain ⟨ns, f, hn, hsm, hc, hp⟩ := h
 refine ⟨(ns.filter fun n => (m2 n).isSome).map fun n => fX (m2 n) (f n), (ns.filter fun n => !(m2 n).isSome).map fun n => fX (m n) (f n), ?_, ?_⟩
 ·refine ⟨_, f, hn.filter _, fun n => ?_, fun n b2 hb2 => ?_, List.Perm.refl _⟩
  ·rw [List.mem_filter]
   constructor
   ·intro h
    obtain ⟨b2, hb2⟩ := Option.isSome_iff_exists.1 h
    obtain ⟨b, hb, _⟩ := hs n b2 hb2
    exact ⟨(hsm n).1 (by simp [hb]), h⟩
   ·exact fun h => h.2
  ·obtain ⟨b, hb, _, _, h4⟩ := hs n b2 hb2
   exact h4 _ (hc n b hb)
 ·refine hp.trans ?_
  have e : (ns.filter fun n => (m2 n).isSome).map (fun n => fX (m2 n) (f n)) = (ns.filter fun n => (m2 n).isSome).map fun n => fX (m n) (f n) := by
   refine List.map_congr_left fun n hn => ?_
   obtain ⟨b2, hb2⟩ := Option.isSome_iff_exists.1 (List.mem_filter.1 hn).2
   obtain ⟨b, hb, h1, h2, _⟩ := hs n b2 hb2
   simp [hb2, hb, fX, h1, h2]
  rw [e, ← List.map_append]
  exact ((List.filter_append_perm _ ns).map _).symm
theorem rm {s : SS} {t : Nat} (h : (vU s t).fit = true) : ∃ x, s.tmps t = .s (.at x) ∧ x.fit = true ∧ vU s t = x := by
 unfold vU at h ⊢
 split at h
 ·rename_i x hx; exact ⟨x, hx, h, rfl⟩
 ·simp [At.fit] at h
theorem At.fit_known {x : At} (h : x.fit = true) : x.known = true := by cases x <;> simp_all [At.fit, At.known]
theorem qZ {cs : List At} {c : Nat} (h : (cs.getD c .any).fit = true) : cs[c]? = some (cs.getD c .any) := by
 cases hc : cs[c]? with
 | none => simp [List.getD, hc, At.fit] at h
 | some x => simp [List.getD, hc]
theorem Ones.append {a b : List Value} : Ones (a ++ b) ↔ Ones a ∧ Ones b := by
 induction a with
 | nil => simp [Ones]
 | cons x r ih => simp [Ones, ih, and_assoc]
theorem sK {F : Own} {s' h : SS} {H : Heap} {O : Own} {a : Act} {w : World} (hC : Conc F s' H O a w) (hok : h.Ok) (hsz : s'.sz = h.sz) {carry keep : List Nat} {hb : List (Nat × Bx × List Nat × Nat)}
  (hpos : vm carry.length hb = true) (hkn : fR s' carry hb = true) (hkeep : ∀ t ∈ keep, qX carry t = none → (h.tmps t).rel (a.tmps.getD t undef))
  (hbox : ∀ n b cells i, (n, b, cells, i) ∈ hb → h.mem n = some b ∧ ∃ b', s'.mem n = some b' ∧ b'.r = b.r ∧ b'.T = b.T ∧ b'.cs.length = b.cs.length ∧
   ∀ (j : Nat) (x : At), j ∉ cells → b.cs[j]? = some x → x.known = true → ∃ x', b'.cs[j]? = some x' ∧ x'.known = true ∧ x'.den = x.den) :
  Conc F (gQ h carry keep hb (bF s' carry hb)) H O a w ∧ Ones (bF s' carry hb) := by
 simp only [fR, Bool.and_eq_true, List.all_eq_true] at hkn
 obtain ⟨hk1, hk2⟩ := hkn
 have hfit : ∀ n b cells i, (n, b, cells, i) ∈ hb → ∀ b', s'.mem n = some b' → ∀ c ∈ cells, (b'.cs.getD c .any).fit = true := by
  intro n b cells i hm b' hb' c hc
  have := hk2 (n, b, cells, i) hm
  simp only [hb', List.all_eq_true] at this
  exact this c hc
 have hones : Ones (bF s' carry hb) := by
  rw [gq, Ones.append]
  constructor
  ·have : ∀ l : List Nat, (∀ t ∈ l, (vU s' t).fit = true) → Ones (l.map fun t => (vU s' t).den) := by
    intro l
    induction l with
    | nil => intro _; trivial
    | cons t r ih =>
     intro hl
     obtain ⟨x, hx, hf, e⟩ := rm (hl t (by simp))
     refine ⟨?_, ih fun u hu => hl u (by simp [hu])⟩
     show (vU s' t).den.oneCell' = true
     rw [e]
     refine At.fit_one hf ?_
     have := hC.ok.1 t
     rw [hx] at this
     exact this x (by simp [S1.cells])
   exact this carry hk1
  ·have : ∀ l : List (Nat × Bx × List Nat × Nat), (∀ x ∈ l, x ∈ hb) → Ones (l.flatMap (ix s')) := by
    intro l
    induction l with
    | nil => intro _; trivial
    | cons x r ih =>
     intro hl
     rw [List.flatMap_cons, Ones.append]
     refine ⟨?_, ih fun u hu => hl u (by simp [hu])⟩
     obtain ⟨n, b, cells, i⟩ := x
     obtain ⟨_, b', hb', _⟩ := hbox n b cells i (hl _ (by simp))
     simp only [ix, hb']
     have hf := hfit n b cells i (hl _ (by simp)) b' hb'
     have hokb := hC.ok.2 n b' hb'
     have : ∀ cl : List Nat, (∀ c ∈ cl, (b'.cs.getD c .any).fit = true) → Ones (cl.map fun c => (b'.cs.getD c .any).den) := by
      intro cl
      induction cl with
      | nil => intro _; trivial
      | cons c cr ihc =>
       intro hcl
       refine ⟨?_, ihc fun u hu => hcl u (by simp [hu])⟩
       have hf' := hcl c (by simp)
       exact At.fit_one hf' (hokb _ (List.mem_of_getElem? (qZ hf')))
     exact this cells hf
   exact this hb fun _ h => h
 have hcarry : ∀ t i, qX carry t = some i → g (bF s' carry hb) i = (vU s' t).den ∧ i < (bF s' carry hb).length := by
  intro t i hi
  have hi' := lp hi
  have hlt := (List.getElem?_eq_some_iff.1 hi').1
  rw [gq]
  refine ⟨?_, by rw [List.length_append, List.length_map]; omega⟩
  rw [gu (by simpa using hlt)]
  exact Ez (by simp [hi'])
 have hboxv : ∀ n b cells i, (n, b, cells, i) ∈ hb → ∀ b', s'.mem n = some b' → ∀ p c, cells[p]? = some c → g (bF s' carry hb) (i + p) = (b'.cs.getD c .any).den := by
  intro n b cells i hm b' hb' p c hc
  rw [gq]
  refine oC hpos (by simp) (fun x hx => ?_) n b cells i hm b' hb' p c hc
  obtain ⟨n, b, cells, i⟩ := x
  obtain ⟨_, b', hb', _⟩ := hbox n b cells i hx
  simp [hb']
 have hmem : ∀ n b2, (gQ h carry keep hb (bF s' carry hb)).mem n = some b2 → ∃ b cells i, (n, b, cells, i) ∈ hb ∧ b2 = { b with cs := eC b.cs (bF s' carry hb) cells i } := by
  intro n b2 hb2
  simp only [gQ] at hb2
  split at hb2
  ·rename_i n' b cells i hf
   simp only [Option.some.injEq] at hb2
   have := List.find?_some hf
   simp only [beq_iff_eq] at this
   subst this
   exact ⟨b, cells, i, List.mem_of_find?_eq_some hf, hb2.symm⟩
  ·simp at hb2
 refine ⟨⟨⟨fun t => ?_, fun n b2 hb2 x hx => ?_⟩, hC.df, by rw [hC.sz, hsz]; rfl, fun t => ?_, ?_⟩, hones⟩
 ·simp only [gQ]
  split
  ·rename_i i hi
   obtain ⟨e, hlt⟩ := hcarry t i hi
   intro x hx
   simp only [S1.cells, List.mem_singleton] at hx
   subst hx
   exact hones.get i hlt
  ·split
   ·exact hok.1 t
   ·intro x hx
    simp only [S1.cells, List.mem_singleton] at hx
    subst hx; trivial
 ·obtain ⟨b, cells, i, hm, rfl⟩ := hmem n b2 hb2
  obtain ⟨hh, b', hb', _⟩ := hbox n b cells i hm
  obtain ⟨j, hj, rfl⟩ := List.getElem_of_mem hx
  rcases f7 (List.getElem?_eq_getElem hj) with ⟨p, hp, he⟩ | ⟨he, _⟩
  ·simp only [] at he
   rw [he]
   show (g _ _).oneCell' = true
   rw [hboxv n b cells i hm b' hb' p j hp]
   have hf := hfit n b cells i hm b' hb' j (List.mem_of_getElem? hp)
   exact At.fit_one hf (hC.ok.2 n b' hb' _ (List.mem_of_getElem? (qZ hf)))
  ·exact hok.2 n b hh _ (List.mem_of_getElem? he)
 ·simp only [gQ]
  split
  ·rename_i i hi
   obtain ⟨e, hlt⟩ := hcarry t i hi
   obtain ⟨x, hx, hf, e2⟩ := rm (hk1 t (List.mem_of_getElem? (lp hi)))
   have ht := hC.tm t
   rw [hx] at ht
   have := dc (x := .at x) (by simpa [S1.known, S1.cells] using At.fit_known hf) ht
   show a.tmps.getD t undef = _
   rw [this, S1.den, S1.den, At.den, e, e2]
  ·rename_i hi
   split
   ·rename_i hkc
    exact hkeep t (by simpa using hkc) hi
   ·trivial
 ·obtain ⟨L, hL, hmod⟩ := hC.mm
  obtain ⟨L2, L3, hL2, hp⟩ := hL.sub (m2 := (gQ h carry keep hb (bF s' carry hb)).mem) (fun n b2 hb2 => by
   obtain ⟨b, cells, i, hm, rfl⟩ := hmem n b2 hb2
   obtain ⟨hh, b', hb', h1, h2, h3, h4⟩ := hbox n b cells i hm
   refine ⟨b', hb', h1, h2, fun vs hvs => ?_⟩
   rw [CellsRel.iff] at hvs ⊢
   refine ⟨by rw [jP, ← h3]; exact hvs.1, fun j x v hx hv hk => ?_⟩
   rcases f7 hx with ⟨p, hp, he⟩ | ⟨he, hnot⟩
   ·rw [he, At.den, hboxv n b cells i hm b' hb' p j hp]
    have hf := hfit n b cells i hm b' hb' j (List.mem_of_getElem? hp)
    exact hvs.2 j _ v (qZ hf) hv (At.fit_known hf)
   ·obtain ⟨x', hx', hk', hd'⟩ := h4 j x hnot he hk
    rw [← hd']
    exact hvs.2 j x' v hx' hv hk')
  refine ⟨L2, hL2, ?_⟩
  have h1 : Models w H ((L2 ++ L3) ++ (O ++ F)) := hmod.perm (hp.append_right _)
  rw [List.append_assoc] at h1
  exact h1.sub ((List.sublist_append_right L3 (O ++ F)).append_left L2)
theorem Eqs.mem : ∀ {l : List (List Value × List Value)}, Eqs l → ∀ p ∈ l, p.1 = p.2
 | [], _, _, h => by simp at h
 | _ :: _, h, p, hp => by
  rcases List.mem_cons.1 hp with rfl | hp
  ·exact h.1
  ·exact h.2.mem p hp
theorem bK {s : SS} : ∀ {l : List (Nat × List Nat)} {i0 : Nat} {x : Nat × Bx × List Nat × Nat}, x ∈ bU s l i0 → s.mem x.1 = some x.2.1
 | [], _, _, h => by simp [bU] at h
 | (t, cells) :: r, i0, x, h => by
  simp only [bU] at h
  split at h
  ·exact bK h
  ·rename_i n hn
   split at h
   ·exact bK h
   ·rename_i b hb
    rcases List.mem_cons.1 h with rfl | h
    ·exact hb
    ·exact bK (List.mem_filter.1 h).1
theorem cg {x : S1} {v : Value} (h : v = x.den) : (SV.s x).rel v := by
 unfold SV.rel
 split <;> simp_all
theorem uP : ∀ {a b : List S1}, a.length = b.length → ((a.zip b).all fun p => match p.1, p.2 with | .at _, .at _ => true | .agg a, .agg b => a.length == b.length | _, _ => false) = true →
  (a.flatMap S1.cells).map At.den = (b.flatMap S1.cells).map At.den → a.map S1.den = b.map S1.den
 | [], [], _, _, _ => rfl
 | [], _ :: _, h, _, _ => by simp at h
 | _ :: _, [], h, _, _ => by simp at h
 | x :: a, y :: b, hl, hs, he => by
  simp only [List.zip_cons_cons, List.all_cons, Bool.and_eq_true] at hs
  simp only [List.flatMap_cons, List.map_append] at he
  have hlen : (x.cells.map At.den).length = (y.cells.map At.den).length := by
   rcases x with x | x <;> rcases y with y | y <;> simp_all [S1.cells]
  obtain ⟨h1, h2⟩ := List.append_inj he hlen
  rw [List.map_cons, List.map_cons, uP (by simpa using hl) hs.2 h2]
  congr 1
  rcases x with x | x <;> rcases y with y | y <;> simp_all [S1.cells, S1.den]
theorem Ag {a b : SV} {v : Value} (hl : wm a b = true) (hk : ∃ l, dX a = some l ∧ l.all At.known = true)
  (he : ((dX a).getD []).map At.den = ((dX b).getD []).map At.den) (h : a.rel v) : b.rel v := by
 obtain ⟨l, hl1, hk⟩ := hk
 unfold wm at hl
 split at hl
 ·rename_i x y
  simp only [dX, S1.cells, Option.some.injEq] at hl1
  subst hl1
  have := dc (x := .at x) (by simpa [S1.known, S1.cells] using hk) h
  simp only [dX, S1.cells, Option.getD_some, List.map_cons, List.map_nil, List.cons.injEq, and_true] at he
  exact cg (by rw [this]; exact he)
 ·rename_i x y
  simp only [dX, S1.cells, Option.some.injEq] at hl1
  subst hl1
  have := dc (x := .agg x) (by simpa [S1.known, S1.cells] using hk) h
  simp only [dX, S1.cells, Option.getD_some] at he
  exact cg (by rw [this, S1.den, S1.den, he])
 ·rename_i x y
  simp only [Bool.and_eq_true, beq_iff_eq] at hl
  simp only [dX, Option.getD_some] at he
  have h' : v = .tuple (x.map S1.den).toArray := h
  show v = .tuple (y.map S1.den).toArray
  rw [h', uP hl.1 hl.2 he]
 ·simp at hl
theorem lN {α : Type} : ∀ (l : List α) (n j : Nat), (aw n l)[j]? = l[j]?.map fun a => (n + j, a)
 | [], n, j => by simp [aw]
 | a :: r, n, 0 => by simp [aw]
 | a :: r, n, j + 1 => by
  rw [aw, List.getElem?_cons_succ, lN r (n + 1) j, List.getElem?_cons_succ]
  congr 1; funext x; congr 1; omega
theorem Eu {a b : List At} {cells : List Nat} (hl : a.length = b.length) (h : (ic a cells).map At.den = (ic b cells).map At.den) {j : Nat} {x : At} (hj : j ∉ cells) (hx : b[j]? = some x) :
  ∃ x', a[j]? = some x' ∧ x'.den = x.den := by
 have hlt : j < a.length := by rw [hl]; exact (List.getElem?_eq_some_iff.1 hx).1
 have hx' : a[j]? = some a[j] := List.getElem?_eq_getElem hlt
 refine ⟨a[j], hx', ?_⟩
 have := congrArg (fun l => l[j]?) h
 simp only [ic, List.getElem?_map, lN, hx, hx', Option.map_some, Nat.zero_add, Option.some.injEq] at this
 simpa [hj] using this
def jd : List (Nat × Bx × List Nat × Nat) → Nat
 | [] => 0
 | x :: r => x.2.2.1.length + jd r
theorem lL {s : SS} {carry : List Nat} {hb : List (Nat × Bx × List Nat × Nat)} (h : fR s carry hb = true) : (bF s carry hb).length = carry.length + jd hb := by
 rw [gq, List.length_append, List.length_map, Nat.add_left_cancel_iff]
 simp only [fR, Bool.and_eq_true] at h
 replace h := h.2
 induction hb with
 | nil => rfl
 | cons x r ih =>
  rw [List.all_cons, Bool.and_eq_true] at h
  rw [List.flatMap_cons, List.length_append, ih h.2, jd, Nat.add_right_cancel_iff]
  have h1 := h.1
  unfold ix
  cases hb : s.mem x.1 with
  | none => simp only [hb] at h1; cases h1
  | some b => simp
theorem eA {P : Program} {QT : Value → Heap → Own → Prop} {F : Own} {h s' : SS} {H : Heap} {O : Own} {a : Act} {w : World} {lab : Nat} {C : List Value → Heap → Own → Prop}
  {carry keep : List Nat} {hb : List (Nat × Bx × List Nat × Nat)}
  (hd : (ep lab C carry keep hb h s').den P QT H O) (hC : Conc F s' H O a w) (hok : h.Ok) (hhb : ∀ n b cells i, (n, b, cells, i) ∈ hb → h.mem n = some b) :
  C (bF s' carry hb) H O ∧ Conc F (gQ h carry keep hb (bF s' carry hb)) H O a w ∧ Ones (bF s' carry hb) ∧
  (bF s' carry hb).length = carry.length + jd hb := by
 unfold ep at hd
 split at hd
 ·rename_i hcond
  simp only [Bool.and_eq_true, List.all_eq_true, beq_iff_eq] at hcond
  obtain ⟨⟨⟨⟨hsz, hpos⟩, hkn⟩, hkeep⟩, hbx⟩ := hcond
  obtain ⟨heq, hc⟩ := hd
  have heq' := heq.mem
  have hh := sK hC hok hsz hpos hkn (keep := keep) (fun t ht hi => ?_) (fun n b cells i hm => ?_)
  ·exact ⟨hc, hh.1, hh.2, lL hkn⟩
  ·have h1 := hkeep t ht
   rw [hi] at h1
   simp only [Option.isSome_none, Bool.false_or, Bool.and_eq_true] at h1
   refine Ag h1.1 ?_ (heq' _ (List.mem_append_left _ (List.mem_map.2 ⟨t, List.mem_filter.2 ⟨ht, by simp [hi]⟩, rfl⟩))) (hC.tm t)
   cases hsc : dX (s'.tmps t) with
   | none => rw [hsc] at h1; simp at h1
   | some l => rw [hsc] at h1; exact ⟨l, rfl, h1.2⟩
  ·refine ⟨hhb n b cells i hm, ?_⟩
   have h1 := hbx _ hm
   simp only [] at h1
   cases hb' : s'.mem n with
   | none => rw [hb'] at h1; simp at h1
   | some b' =>
    rw [hb'] at h1
    simp only [Bool.and_eq_true, beq_iff_eq, List.all_eq_true] at h1
    have h2 := heq' _ (List.mem_append_right _ (List.mem_map.2 ⟨_, hm, rfl⟩))
    simp only [hb', List.cons.injEq, Value.pointer.injEq, Option.some.injEq, Addr.mk.injEq, and_true] at h2
    refine ⟨b', rfl, h2.1, h1.1.1, h1.1.2, fun j x hj hx _ => ?_⟩
    obtain ⟨x', hx', hd'⟩ := Eu h1.1.2 h2.2 hj hx
    exact ⟨x', hx', h1.2 _ (List.mem_of_getElem? hx'), hd'⟩
 ·exact hd.elim
theorem u7 {gl' : List (At × Bool)} {cs : List Ck} (h : lC [] gl' = some cs) : cs = [] := by
 unfold lC at h
 simp only [] at h
 split at h
 ·simp only [Option.some.injEq] at h
  subst h; simp
 ·simp at h
theorem jY {s : SS} {x : Operand} {v : At} {cs : List Ck} (hx : dh s [] x = some (v, cs)) : cs = [] := by
 have hx := qI hx
 cases x with
 | tmp t =>
  simp only [gP] at hx
  split at hx
  ·split at hx
   ·simp only [Option.some.injEq, Prod.mk.injEq] at hx; exact hx.2.symm
   ·simp at hx
  ·split at hx
   ·rename_i gl' y hy hk
    cases hs : lC [] gl' with
    | none => simp [hs] at hx
    | some c => simp only [hs, Option.map_some, Option.some.injEq, Prod.mk.injEq] at hx; rw [← hx.2]; exact u7 hs
   ·simp at hx
  ·simp at hx
 | _ => simp only [gP, Option.some.injEq, Prod.mk.injEq] at hx; exact hx.2.symm
structure Kont (P : Program) (QT : Value → Heap → Own → Prop) (F : Own) (k : SS → Tree) (H : Heap) (Q : Act → World → Prop) : Prop where
 go : ∀ s' H' O' a' w', Conc F s' H' O' a' w' → Heap.le H H' → (k s').den P QT H' O' → Q a' w'
theorem Kont.le {P : Program} {QT : Value → Heap → Own → Prop} {F : Own} {k : SS → Tree} {H H' : Heap} {Q : Act → World → Prop} (h : Kont P QT F k H Q) (hl : Heap.le H H') : Kont P QT F k H' Q :=
 ⟨fun s' H2 O' a' w' hc hle hd => h.go s' H2 O' a' w' hc (Heap.le_trans hl hle) hd⟩
theorem qb {P : Program} {QT : Value → Heap → Own → Prop} {F : Own} {c : Operand} {x y : Code} {s : SS} {tx ty : Tree} {H : Heap} {O : Own} {a : Act} {w : World} {Q : Exit → Act → World → Prop}
  (h : (match dh s [] c with
   | some (.k (.bool true), _) => tx
   | some (.k (.bool false), _) => ty
   | some (v, _) => .br v.den tx ty
   | none => .stuck 904).den P QT H O) (hC : Conc F s H O a w)
  (hx : tx.den P QT H O → x.wp P Q a w) (hy : ty.den P QT H O → y.wp P Q a w) : (Code.cond c x y).wp P Q a w := by
 have hden : ∀ v cs, dh s [] c = some (v, cs) → a.eval c = v.den := fun v cs he => by
  have := jY he; subst this
  exact ay hC he trivial trivial
 split at h
 ·rename_i cs he; exact wp_cond_true (hden _ _ he) (hx h)
 ·rename_i cs he; exact wp_cond_false (hden _ _ he) (hy h)
 ·rename_i v cs _ _ he
  obtain ⟨b, hb, h1, h2⟩ := h
  refine wp_cond_split (t := b) (by rw [hden _ _ he]; exact hb) (fun e => hx (h1 e)) (fun e => hy (h2 e))
 ·exact h.elim
theorem yH {P : Program} (hm : P.follows .mixedOrders = true) {opts : vZ} (hokf : ∀ f, opts.okf f = true → gU P f) {QT : Value → Heap → Own → Prop} {F : Own} : ∀ (c : Code) {s : SS} {k : SS → Tree}
  {X : Nat → Option (SS → Tree)} {R : SS → Tree} {H : Heap} {O : Own} {a : Act} {w : World} {Q : Exit → Act → World → Prop},
  (sx P opts c s k X R).den P QT H O → Conc F s H O a w → Kont P QT F k H (Q .normal) → (∀ id kx, X id = some kx → Kont P QT F kx H (Q (.exit id))) → Kont P QT F R H (Q .ret) → c.wp P Q a w := by
 intro c
 induction c with
 | skip => intro s k X R H O a w Q h hC hk _ _; exact wp_skip (hk.go _ _ _ _ _ hC (Heap.le_refl H) h)
 | label l => intro s k X R H O a w Q h hC hk _ _; exact wp_label (hk.go _ _ _ _ _ hC (Heap.le_refl H) h)
 | region id ops draw =>
  intro s k X R H O a w Q h hC hk _ _
  exact rX hm hokf h hC hk.go
 | seq x y ihx ihy =>
  intro s k X R H O a w Q h hC hk hX hR
  refine wp_seq (ihx h hC ⟨fun s' H' O' a' w' hC' hle hd => ?_⟩ (fun id kx he => hX id kx he) hR)
  exact ihy hd hC' (hk.le hle) (fun id kx he => (hX id kx he).le hle) (hR.le hle)
 | cond c x y ihx ihy =>
  intro s k X R H O a w Q h hC hk hX hR
  simp only [sx] at h
  split at h
  ·exact qb h hC (fun hd => ihx hd hC hk hX hR) (fun hd => ihy hd hC hk hX hR)
  ·rename_i carry keep boxes hcut
   obtain ⟨R0, hbody, hrest⟩ := h
   have hC1 := hC.next (s.next + 1)
   have hk1 : Kont P QT F (fun s' => ep s.next (fun vs' H'' O'' => Cons H'' O'' → ∃ H3 O3, Ghost H'' O'' H3 O3 ∧ R0 vs' H3 O3) carry keep (bU s boxes carry.length) s s') H (Q .normal) := by
    refine ⟨fun s' H' O' a' w' hC' hle hd => ?_⟩
    have hb := eA (h := { s with next := s.next + 1 }) hd hC' hC1.ok (fun n b cells i hmem => bK hmem)
    obtain ⟨hb0, hC2, hones, _⟩ := hb
    obtain ⟨H3, O3, hg, hr⟩ := hb0 hC2.cons
    obtain ⟨hC3, hle3⟩ := hC2.ghost hg
    exact hk.go _ _ _ _ _ hC3 (Heap.le_trans hle hle3) (hrest _ _ _ hones (Heap.le_trans hle hle3) hr)
   exact qb (s := { s with next := s.next + 1 }) hbody hC1 (fun hd => ihx hd hC1 hk1 hX hR) (fun hd => ihy hd hC1 hk1 hX hR)
 | block id b ih =>
  intro s k X R H O a w Q h hC hk hX hR
  refine wp_block (ih h hC ⟨fun s' H' O' a' w' hC' hle hd => hk.go _ _ _ _ _ hC' hle hd⟩ (fun j kx he => ?_) ⟨fun s' H' O' a' w' hC' hle hd => hR.go _ _ _ _ _ hC' hle hd⟩)
  split at he
  ·rename_i e
   simp only [Option.some.injEq] at he
   subst he; subst e
   exact ⟨fun s' H' O' a' w' hC' hle hd => by
    show Exit.inBlock j Q (.exit j) a' w'
    simp only [Exit.inBlock, if_true]
    exact hk.go _ _ _ _ _ hC' hle hd⟩
  ·rename_i e
   exact ⟨fun s' H' O' a' w' hC' hle hd => by
    show Exit.inBlock id Q (.exit j) a' w'
    simp only [Exit.inBlock, if_neg e]
    exact (hX j kx he).go _ _ _ _ _ hC' hle hd⟩
 | exit id =>
  intro s k X R H O a w Q h hC hk hX hR
  simp only [sx] at h
  split at h
  ·rename_i kx he
   exact wp_exit ((hX id kx he).go _ _ _ _ _ hC (Heap.le_refl H) h)
  ·exact h.elim
 | ret =>
  intro s k X R H O a w Q h hC hk hX hR
  exact wp_ret (hR.go _ _ _ _ _ hC (Heap.le_refl H) h)
 | loop b ih =>
  intro s k X R H O a w Q h hC hk hX hR
  simp only [sx] at h
  split at h
  ·rename_i n hn
   refine f6 (G := Nat × SS × Heap × Own) (fun g a w => Heap.le H g.2.2.1 ∧ Conc F g.2.1 g.2.2.1 g.2.2.2 a w ∧ (kZ (fun s k => sx P opts b s k X R) g.1 g.2.1).den P QT g.2.2.1 g.2.2.2)
    (fun g => g.1) (g0 := (n, s, H, O)) ⟨Heap.le_refl H, hC, h⟩ ?_
   rintro ⟨m, s1, H1, O1⟩ a1 w1 ⟨hle1, hC1, hd1⟩
   cases m with
   | zero => exact hd1.elim
   | succ m =>
    refine ih hd1 hC1 ⟨fun s' H' O' a' w' hC' hle hd => ?_⟩ (fun id kx he => ⟨fun s' H' O' a' w' hC' hle hd => (hX id kx he).go _ _ _ _ _ hC' (Heap.le_trans hle1 hle) hd⟩)
     ⟨fun s' H' O' a' w' hC' hle hd => hR.go _ _ _ _ _ hC' (Heap.le_trans hle1 hle) hd⟩
    exact ⟨(m, s', H', O'), ⟨Heap.le_trans hle1 hle, hC', hd⟩, Nat.lt_succ_self m⟩
  ·rename_i carry keep boxes hopt
   split at h
   ·rename_i hcond
    simp only [Bool.and_eq_true] at hcond
    obtain ⟨I, μ, hini, hround⟩ := h
    obtain ⟨H1, O1, hg1, hi1⟩ := hini hC.cons
    have hC0 := hC.next (s.next + 1)
    obtain ⟨hCh, hones⟩ := sK (carry := carry) (keep := keep) (hb := bU s boxes carry.length) (h := { s with next := s.next + 1 }) hC hC0.ok rfl hcond.1 hcond.2 (fun t _ _ => hC.tm t)
     (fun n b cells i hmem => ⟨bK hmem, b, bK hmem, rfl, rfl, rfl, fun j x _ hx hk => ⟨x, hx, hk, rfl⟩⟩)
    obtain ⟨hC1, hle1⟩ := hCh.ghost hg1
    refine f6 (G := List Value × Heap × Own)
     (fun g a w => g.1.length = (bF s carry (bU s boxes carry.length)).length ∧ Ones g.1 ∧ Heap.le H g.2.1 ∧ I g.1 g.2.1 g.2.2 ∧
      Conc F (gQ { s with next := s.next + 1 } carry keep (bU s boxes carry.length) g.1) g.2.1 g.2.2 a w)
     (fun g => μ g.1 g.2.1 g.2.2) (g0 := (_, H1, O1)) ⟨rfl, hones, hle1, hi1, hC1⟩ ?_
    rintro ⟨vs, H2, O2⟩ a2 w2 ⟨hlen, hon, hle2, hi2, hC2⟩
    refine ih (hround vs H2 O2 hlen hon hle2 hi2) hC2 ⟨fun s' H' O' a' w' hC' hle hd => ?_⟩ (fun id kx he => ⟨fun s' H' O' a' w' hC' hle hd => (hX id kx he).go _ _ _ _ _ hC' (Heap.le_trans hle2 hle) hd⟩)
     ⟨fun s' H' O' a' w' hC' hle hd => hR.go _ _ _ _ _ hC' (Heap.le_trans hle2 hle) hd⟩
    obtain ⟨hb0, hC3, hones3, hlen3⟩ := eA (h := { s with next := s.next + 1 }) hd hC' hC0.ok (fun n b cells i hmem => bK hmem)
    obtain ⟨H3, O3, hg, hi3, hlt⟩ := hb0 hC3.cons
    obtain ⟨hC4, hle4⟩ := hC3.ghost hg
    refine ⟨(_, H3, O3), ⟨hlen3.trans (lL hcond.2).symm, hones3, Heap.le_trans hle2 (Heap.le_trans hle hle4), hi3, hC4⟩, hlt⟩
   ·exact h.elim
 | _ => intro s k X R H O a w Q h; exact h.elim
def oc (P : Program) : List TypeId → List Value → Option (List Value)
 | [], [] => some []
 | T :: r, a :: as =>
  if bT P T then
   match a with
   | .agg cs => if cs.size = (eP P T).getD 0 then (oc P r as).map (cs.toList ++ ·) else none
   | _ => none
  else (oc P r as).map (a :: ·)
 | _, _ => none
def im (P : Program) (fn : Func) (args : List Value) : Option (List Value) :=
 if fn.params.size + fn.nfree ≤ fn.ntmps then oc P (fn.params.toList ++ List.replicate fn.nfree 0) args else none
theorem s5 (vs : List Value) (i m : Nat) : (atsFrom vs i m).map At.den = (List.range m).map fun j => g vs (i + j) := by
 simp [atsFrom, At.den, Function.comp_def]
theorem BO (pre cs post : List Value) : ((List.range cs.length).map fun j => g (pre ++ (cs ++ post)) (pre.length + j)) = cs := by
 refine List.ext_getElem (by simp) fun j h1 h2 => ?_
 rw [List.getElem_map, List.getElem_range, fD, gu h2]
 simp [g, h2]
theorem lu {P : Program} : ∀ {Ts : List TypeId} {args vs pre : List Value}, oc P Ts args = some vs → Ones (pre ++ vs) →
  args.length = Ts.length ∧ (ei P Ts pre.length (pre ++ vs)).length = Ts.length ∧
  ∀ (t : Nat) (sv : SV) (a : Value), (ei P Ts pre.length (pre ++ vs))[t]? = some sv → args[t]? = some a → sv.rel a ∧ sv.ok
 | [], [], vs, pre, h, _ => by simp [ei]
 | [], _ :: _, _, _, h, _ => by simp [oc] at h
 | _ :: _, [], _, _, h, _ => by simp [oc] at h
 | T :: r, a :: as, vs, pre, h, ho => by
  simp only [oc] at h
  split at h
  ·rename_i hA
   split at h
   ·rename_i cs
    split at h
    ·rename_i hsz
     simp only [Option.map_eq_some_iff] at h
     obtain ⟨vs', h1, rfl⟩ := h
     have e : pre ++ (cs.toList ++ vs') = (pre ++ cs.toList) ++ vs' := by simp
     obtain ⟨i1, i2, i3⟩ := lu (pre := pre ++ cs.toList) h1 (by rw [← e]; exact ho)
     have hl : (pre ++ cs.toList).length = pre.length + (eP P T).getD 0 := by simp [hsz]
     rw [hl, ← e] at i2 i3
     simp only [ei, hA, if_true]
     refine ⟨by simp [i1], by simp [i2], fun t sv x h2 h3 => ?_⟩
     cases t with
     | zero =>
      simp only [List.getElem?_cons_zero, Option.some.injEq] at h2 h3
      subst h2; subst h3
      refine ⟨?_, ?_⟩
      ·show Value.agg cs = S1.den _
       rw [S1.den, s5, ← hsz]
       have := BO pre cs.toList vs'
       simp only [Array.length_toList] at this
       rw [this]
      ·intro b hb
       exact fN (vs := pre ++ (cs.toList ++ vs')) (by simp; omega) ho b hb
     | succ t => exact i3 t sv x (by simpa using h2) (by simpa using h3)
    ·simp at h
   ·simp at h
  ·rename_i hA
   simp only [Option.map_eq_some_iff] at h
   obtain ⟨vs', h1, rfl⟩ := h
   have e : pre ++ (a :: vs') = (pre ++ [a]) ++ vs' := by simp
   obtain ⟨i1, i2, i3⟩ := lu (pre := pre ++ [a]) h1 (by rw [← e]; exact ho)
   have hl : (pre ++ [a]).length = pre.length + 1 := by simp
   rw [hl, ← e] at i2 i3
   simp only [ei, hA, Bool.false_eq_true, if_false]
   have hg : g (pre ++ a :: vs') pre.length = a := by
    have := fD (a := pre) (b := a :: vs') (i := 0)
    rw [Nat.add_zero] at this
    rw [this]; rfl
   refine ⟨by simp [i1], by simp [i2], fun t sv x h2 h3 => ?_⟩
   cases t with
   | zero =>
    simp only [List.getElem?_cons_zero, Option.some.injEq] at h2 h3
    subst h2; subst h3
    refine ⟨?_, ?_⟩
    ·show a = S1.den _
     rw [S1.den, At.den, hg]
    ·intro b hb
     simp only [S1.cells, List.mem_singleton] at hb
     subst hb
     exact ho.get _ (by simp)
   | succ t => exact i3 t sv x (by simpa using h2) (by simpa using h3)
theorem pW {P : Program} {fn : Func} {args vs : List Value} (ha : im P fn args = some vs) (ho : Ones vs) {F : Own} {H : Heap} {O : Own} {w : World} (hm : Models w H (O ++ F)) :
  Conc F (gy P fn vs) H O { tmps := args.toArray ++ Array.replicate (fn.ntmps - args.toArray.size) undef, defers := [] } w := by
 unfold im at ha
 split at ha
 ·rename_i hn
  obtain ⟨h1, h2, h3⟩ := lu (pre := []) ha (by simpa using ho)
  simp only [List.nil_append, List.length_nil] at h2 h3
  have hlen : args.length ≤ fn.ntmps := by rw [h1]; simpa using hn
  have key : ∀ t, ((gy P fn vs).tmps t).rel ((args.toArray ++ Array.replicate (fn.ntmps - args.toArray.size) undef).getD t undef) ∧ ((gy P fn vs).tmps t).ok := by
   intro t
   simp only [gy]
   rcases Nat.lt_or_ge t args.length with hlt | hge
   ·have hlt2 : t < (ei P (fn.params.toList ++ List.replicate fn.nfree 0) 0 vs).length := by rw [h2, ← h1]; exact hlt
    obtain ⟨r1, r2⟩ := h3 t _ args[t] (List.getElem?_eq_getElem hlt2) (List.getElem?_eq_getElem hlt)
    rw [List.getElem?_eq_getElem hlt2, Option.getD_some]
    refine ⟨?_, r2⟩
    have : (args.toArray ++ Array.replicate (fn.ntmps - args.toArray.size) undef).getD t undef = args[t] := by
     rw [Array.getD_eq_getD_getElem?, Array.getElem?_append_left (by simpa using hlt)]
     simp [hlt]
    rw [this]; exact r1
   ·rw [List.getElem?_eq_none (by rw [h2, ← h1]; exact hge), Option.getD_none]
    refine ⟨?_, jZ undef⟩
    have : (args.toArray ++ Array.replicate (fn.ntmps - args.toArray.size) undef).getD t undef = undef := by
     rw [Array.getD_eq_getD_getElem?, Array.getElem?_append_right (by simpa using hge)]
     rw [Array.getElem?_replicate]
     split <;> rfl
    rw [this]
    exact cg rfl
  refine ⟨⟨fun t => (key t).2, fun n b hb => by simp [gy] at hb⟩, rfl, by simp [gy]; omega, fun t => (key t).1, [], Boxes.none, hm⟩
 ·simp at ha
def uy (tmps : Array Value) : ResultVar → Sem Value
 | .tmp t => pure (tmps.getD t undef)
 | .cell b t => do loadVar t (← asAddr (tmps.getD b undef))
theorem pr (fn : Func) (tmps : Array Value) : results fn tmps = (do
  let vs ← fn.results.mapM (uy tmps)
  pure (if h : vs.size = 1 then vs[0] else .tuple vs)) := by
 unfold results
 congr 2
theorem Ew {P : Program} {F : Own} {s : SS} {H : Heap} {O : Own} {a : Act} {w : World} (hC : Conc F s H O a w) {x : ResultVar} {v : S1} (hx : tB P s x = some v) (hc : AllCk (rV s x)) :
  (uy a.tmps x).run P w = .ok v.den w := by
 cases x with
 | tmp t =>
  simp only [tB] at hx
  split at hx
  ·rename_i y hy
   split at hx
   ·rename_i hk
    simp only [Option.some.injEq] at hx; subst hx
    have := hC.tm t
    rw [hy] at this
    rw [← dc hk this]; rfl
   ·simp at hx
  ·simp at hx
 | cell b T =>
  simp only [tB] at hx
  split at hx
  ·rename_i n r hat
   simp only [Option.bind_eq_some_iff] at hx
   obtain ⟨bx, hbx, hx⟩ := hx
   split at hx
   ·rename_i hcond
    simp only [Bool.and_eq_true, beq_iff_eq] at hcond
    obtain ⟨hk, hsz⟩ := hcond
    have hr : r = bx.r := by
     simp only [rV, hat, hbx] at hc
     exact hc.1
    obtain ⟨x, hx1, hx2, hx3⟩ := rm (s := s) (t := b) (by rw [hat]; rfl)
    have ht := hC.tm b
    rw [hx1] at ht
    have htv := dc (x := .at x) (by simpa [S1.known, S1.cells] using At.fit_known hx2) ht
    rw [S1.den, ← hx3, hat, At.den] at htv
    obtain ⟨vs, hvs, hrow⟩ := rc hC hbx
    have hvk := hvs.known hk
    have hread := fj hrow 0 (m := vs.length)
    simp only [List.drop_zero, List.take_length] at hread
    have hmk : bT P T = true ∨ bx.cs.length = 1 := by
     unfold vX at hx
     split at hx
     ·rename_i h; exact .inl h
     ·split at hx
      ·rename_i h; right; simp [h]
      ·simp at hx
    have := eS (P := P) (t := T) hsz.symm (a := ⟨r, 0, none⟩) (vs := vs) (by rw [hvk]; simp) (by rw [hr]; exact hread) hmk
    simp only [uy, htv, asAddr]
    rw [Sem.run_bind]
    simp only [Sem.run_pure, Result.andThen_ok]
    rw [this]
    congr 1
    unfold vX at hx
    split at hx
    ·rename_i hA
     simp only [Option.some.injEq] at hx; subst hx
     simp [hA, S1.den, hvk]
    ·rename_i hA
     split at hx
     ·rename_i y hy
      simp only [Option.some.injEq] at hx; subst hx
      simp only [hA, Bool.false_eq_true, if_false]
      rw [hvk, hy]; simp [g, S1.den]
     ·simp at hx
   ·simp at hx
  ·simp at hx
theorem qE {P : Program} {F : Own} {s : SS} {H : Heap} {O : Own} {a : Act} {w : World} (hC : Conc F s H O a w) : ∀ {xs : List ResultVar} {l : List S1}, jU P s xs = some l → AllCk (xs.flatMap (rV s)) →
  (xs.mapM (uy a.tmps)).run P w = .ok (l.map S1.den) w
 | [], l, h, _ => by simp only [jU, Option.some.injEq] at h; subst h; rfl
 | x :: r, l, h, hc => by
  simp only [jU] at h
  split at h
  ·rename_i v vs h1 h2
   simp only [Option.some.injEq] at h; subst h
   rw [List.flatMap_cons, AllCk.append] at hc
   rw [List.mapM_cons, Sem.run_bind, Ew hC h1 hc.1]
   simp only [Result.andThen_ok]
   rw [Sem.run_bind, qE hC h2 hc.2]
   rfl
  ·simp at h
theorem nj {P : Program} {fn : Func} {F : Own} {s : SS} {H : Heap} {O : Own} {a : Act} {w : World} {QT : Value → Heap → Own → Prop} (hC : Conc F s H O a w) (h : (js P fn s).den P QT H O) :
  a.defers = [] ∧ ∃ v, (results fn a.tmps).run P w = .ok v w ∧ ∃ H' O', QT v H' O' ∧ Heap.le H H' ∧ Models w H' (O' ++ F) := by
 unfold js at h
 split at h
 ·exact h.elim
 ·rename_i l hl
  simp only [] at h
  split at h
  ·rename_i hcond
   simp only [Bool.and_eq_true, List.all_eq_true] at hcond
   obtain ⟨hck, hret⟩ := cY h
   obtain ⟨L, hL, hmod⟩ := hC.mm
   obtain ⟨L', hp, _⟩ := qs hL (fun p hp => fC p hp) (jt hcond.2) (fun p hp => by rw [List.all_eq_true]; exact hcond.1 p hp)
   have hm1 : Models w H (((bvs (dz s (cn s 50 (dH (l.flatMap S1.cells) (dw (l.flatMap S1.cells) [])) []))).map BV.obj ++ O) ++ (L' ++ F)) := by
    refine hmod.perm ((hp.append_right _).trans ?_)
    rw [bvs, List.map_map, List.append_assoc, List.append_assoc]
    exact List.Perm.append_left _ (List.perm_append_comm_assoc _ _ _)
   obtain ⟨H', O', hg, hq⟩ := hret ⟨w, _, hm1⟩
   refine ⟨hC.df, _, ?_, H', O', hq, ?_⟩
   ·rw [pr, Sem.run_bind]
    have hr := qE hC hl hck
    rw [← Array.toArray_toList (xs := fn.results), List.mapM_toArray]
    simp only [Sem.run_map]
    rw [hr]
    rcases l with _ | ⟨v, _ | ⟨v', r⟩⟩ <;> simp
   ·obtain ⟨hm2, hle⟩ := hg w _ hm1
    refine ⟨hle, hm2.sub ((List.sublist_append_right L' F).append_left O')⟩
  ·exact h.elim
theorem rG {P : Program} (hm : P.follows .mixedOrders = true) {opts : vZ} (hokf : ∀ f, opts.okf f = true → gU P f) {f : FuncId} {fn : Func} (hf : P.funcs[f]? = some fn)
  {args vs : List Value} (ha : im P fn args = some vs) (ho : Ones vs) {H : Heap} {O : Own} {Q : Value → Heap → Own → Prop} (h : (yI P fn opts vs).den P Q H O) : Triple P f args H O Q := by
 intro w F hmod
 unfold yI at h
 split at h
 ·rename_i c hc
  refine calls_of_wp hf hc ?_
  have hC := pW ha ho hmod
  refine yH hm hokf c h hC ⟨fun s' H' O' a' w' hC' hle hd => ?_⟩ (fun id kx he => by simp at he) ⟨fun s' H' O' a' w' hC' hle hd => ?_⟩
  ·obtain ⟨h1, v, h2, H2, O2, h3, h4, h5⟩ := nj hC' hd
   exact ⟨h1, v, h2, v, H2, O2, rfl, h3, Heap.le_trans hle h4, h5⟩
  ·obtain ⟨h1, v, h2, H2, O2, h3, h4, h5⟩ := nj hC' hd
   exact ⟨h1, v, h2, v, H2, O2, rfl, h3, Heap.le_trans hle h4, h5⟩
 ·exact h.elim
def Aa (P : Program) (f : FuncId) : Bool :=
 match P.funcs[f]? with
 | some fn => !(fn.name == "runtime.NumGoroutine") && !fn.body.isNone
 | none => false
def uK {α : Type} (l : List (Nat × α)) (n : Nat) : Option α :=
 match l with
 | [] => none
 | (k, a) :: r => if k = n then some a else uK r n
def uI (ok : List Nat) (rules : List (Nat × List Nat)) (loops : List (Nat × EW)) (cuts : List (Nat × List Nat × List Nat × List (Nat × List Nat))) : vZ :=
 { okf := fun f => ok.contains f, rules := uK rules, loop := fun n => (uK loops n).getD (.unroll 20), cut := uK cuts }
theorem nK {P : Program} {ok : List Nat} (h : ok.all (Aa P) = true) (rules : List (Nat × List Nat)) (loops : List (Nat × EW)) (cuts : List (Nat × List Nat × List Nat × List (Nat × List Nat))) :
  ∀ f, (uI ok rules loops cuts).okf f = true → gU P f := by
 intro f hf
 have hm : f ∈ ok := by simpa [uI] using hf
 have := List.all_eq_true.1 h f hm
 unfold Aa at this
 split at this
 ·rename_i fn hfn
  simp only [Bool.and_eq_true, Bool.not_eq_true'] at this
  exact ⟨fn, hfn, this.1, this.2⟩
 ·cases this
abbrev E (l : List Value) : List Value × List Value := (l, l)
theorem ab {P : Program} {op : POp} {args : List Value} {k : Value → Tree} {H : Heap} {O : Own} {Q : Value → Heap → Own → Prop} (v : Value) (h : af op args = some v) (hk : (k v).den P Q H O) :
  (Tree.pure [] op args k).den P Q H O := ⟨v, fun _ => h, .inl rfl, hk⟩
theorem au {P : Program} {b : Bool} {t e : Tree} {H : Heap} {O : Own} {Q : Value → Heap → Own → Prop} (h1 : b = true → t.den P Q H O) (h2 : b = false → e.den P Q H O) :
  (Tree.br (.bool b) t e).den P Q H O := ⟨b, rfl, h1, h2⟩
theorem an {P : Program} {k : Nat → Tree} {H : Heap} {O : Own} {Q : Value → Heap → Own → Prop} (h : ∀ r, (k r).den P Q H O) : (Tree.newbox k).den P Q H O := h
theorem ae {P : Program} {a : Nat} {t : Tree} {H : Heap} {O : Own} {Q : Value → Heap → Own → Prop} (h : t.den P Q H O) : (Tree.chk (.eqN a a) t).den P Q H O := ⟨rfl, h⟩
theorem ai {P : Program} {a : Value} {t : Tree} {H : Heap} {O : Own} {Q : Value → Heap → Own → Prop} (h : t.den P Q H O) : (Tree.chk (.eqV a a) t).den P Q H O := ⟨rfl, h⟩
theorem fi {P : Program} {g : Gd} {v : Value} {t : Tree} {H : Heap} {O : Own} {Q : Value → Heap → Own → Prop} (hp : sD v = true) (h : t.den P Q H O) : (Tree.chk (.ptr g v) t).den P Q H O := ⟨fun _ => hp, h⟩
theorem u3 {P : Program} (hm : P.follows .mixedOrders = true) {opts : vZ} (hokf : ∀ f, opts.okf f = true → gU P f) {f : FuncId} {fn : Func} (hf : P.funcs[f]? = some fn)
  {T : List Value → Tree} (ht : ∀ vs, yI P fn opts vs = T vs) {args vs : List Value} (ha : im P fn args = some vs) (ho : Ones vs) {H : Heap} {O : Own} {Q : Value → Heap → Own → Prop} (h : (T vs).den P Q H O) :
  Triple P f args H O Q := rG hm hokf hf ha ho (by rw [ht]; exact h)
def Arr (H : Heap) (size : Nat) (a : Addr) (rows : List (List Value)) : Prop :=
 ∀ i r, rows[i]? = some r → H.read (.pointer (some (a.add (i * size)))) size = some r ∧ r.length = size ∧ Ones r
theorem Arr.le {H H' : Heap} (hl : Heap.le H H') {size : Nat} {a : Addr} {rows : List (List Value)} (h : Arr H size a rows) : Arr H' size a rows :=
 fun i r hr => ⟨hl.read (h i r hr).1, (h i r hr).2⟩
def Sl (H : Heap) (size : Nat) (s : Value) (rows : List (List Value)) : Prop :=
 ∃ a cap, s = .slice a rows.length cap ∧ rows.length ≤ cap ∧ cap < 2 ^ 63 ∧ (rows ≠ [] → ∃ ad, a = some ad ∧ Arr H size ad rows)
theorem Sl.le {H H' : Heap} (hl : Heap.le H H') {size : Nat} {s : Value} {rows : List (List Value)} (h : Sl H size s rows) : Sl H' size s rows :=
 let ⟨a, cap, h1, h2, h3, h4⟩ := h
 ⟨a, cap, h1, h2, h3, fun hn => let ⟨ad, e, hA⟩ := h4 hn; ⟨ad, e, hA.le hl⟩⟩
theorem Sl.nil (H : Heap) (size : Nat) : Sl H size (.slice none 0 0) [] := ⟨none, 0, rfl, Nat.le_refl _, by omega, fun h => absurd rfl h⟩
theorem Sl.one {H : Heap} {size : Nat} {s : Value} {rows : List (List Value)} (h : Sl H size s rows) : s.oneCell' = true := by
 obtain ⟨a, cap, rfl, _⟩ := h; rfl
theorem Sl.lenB {H : Heap} {size : Nat} {s : Value} {rows : List (List Value)} (h : Sl H size s rows) : rows.length < 2 ^ 63 := by
 obtain ⟨a, cap, rfl, h1, h2, _⟩ := h; omega
theorem Sl.len {H : Heap} {size : Nat} {s : Value} {rows : List (List Value)} (h : Sl H size s rows) : af .len [s] = some (.int .i64 rows.length) := by
 obtain ⟨a, cap, rfl, _⟩ := h; rfl
theorem Sl.idx {H : Heap} {size : Nat} {s : Value} {rows : List (List Value)} (h : Sl H size s rows) {k : IntKind} {i : Nat} {r : List Value} (hr : rows[i]? = some r) :
  ∃ a, af (.idx size) [s, .int k i] = some (.pointer (some a)) ∧ H.read (.pointer (some a)) size = some r ∧ r.length = size ∧ Ones r := by
 obtain ⟨a, cap, rfl, _, _, h4⟩ := h
 have hlt : i < rows.length := (List.getElem?_eq_some_iff.1 hr).1
 obtain ⟨ad, rfl, hA⟩ := h4 (by intro e; simp [e] at hlt)
 refine ⟨ad.add (i * size), ?_, hA i r hr⟩
 simp only [af, gx]
 rw [if_pos ⟨by omega, by omega⟩]
 simp
theorem Arr.pidx {H : Heap} {size : Nat} {a : Addr} {rows : List (List Value)} (h : Arr H size a rows) {k : IntKind} {n i : Nat} (hn : n = rows.length) {r : List Value} (hr : rows[i]? = some r) :
  ∃ b, af (.pidx n size) [.pointer (some a), .int k i] = some (.pointer (some b)) ∧ H.read (.pointer (some b)) size = some r ∧ r.length = size ∧ Ones r := by
 subst hn
 have hlt : i < rows.length := (List.getElem?_eq_some_iff.1 hr).1
 refine ⟨a.add (i * size), ?_, h i r hr⟩
 simp only [af, iQ]
 rw [if_pos ⟨by omega, by omega⟩]
 simp
theorem wP {H : Heap} {a : Addr} : ∀ {size : Nat} {r : List Value}, H.read (.pointer (some a)) size = some r → ∀ off m, off + m ≤ size → H.read (dq (.pointer (some a)) off) m = some ((r.drop off).take m) := by
 intro size r h off m hle
 simp only [Heap.read] at h
 have hlen : ∀ {α β : Type} {f : α → Option β} {l : List α} {r : List β}, l.mapM f = some r → r.length = l.length := by
  intro α β f l
  induction l with
  | nil => intro r h; simp at h; subst h; rfl
  | cons a l ih =>
   intro r h
   simp only [List.mapM_cons, Option.pure_def, Option.bind_eq_bind] at h
   cases ha : f a with
   | none => simp [ha] at h
   | some b =>
    simp only [ha, Option.bind_some] at h
    cases hl : l.mapM f with
    | none => simp [hl] at h
    | some bs => simp only [hl, Option.bind_some, Option.some.injEq] at h; subst h; simp [ih hl]
 have hget := j5 h
 have hl := hlen h
 simp only [List.length_range] at hl
 show (List.range m).mapM (fun i => H.cell? ((a.add off).add i)) = _
 have key : ∀ (n i : Nat), i + n = m → (List.range' i n).mapM (fun i => H.cell? ((a.add off).add i)) = some (((r.drop off).drop i).take n) := by
  intro n
  induction n with
  | zero => intro i _; simp
  | succ n ih =>
   intro i hi
   have hlt : off + i < r.length := by omega
   have hc : H.cell? ((a.add off).add i) = some r[off + i] := by
    obtain ⟨j, hj, hc⟩ := hget (off + i) r[off + i] (List.getElem?_eq_getElem hlt)
    have : off + i = j := by
     rw [List.getElem?_eq_some_iff] at hj
     obtain ⟨_, hj⟩ := hj
     simpa using hj
    subst this
    rw [oJ]; exact hc
   rw [List.range'_succ, List.mapM_cons, hc, ih (i + 1) (by omega)]
   simp only [Option.pure_def, Option.bind_eq_bind, Option.bind_some]
   congr 1
   rw [show (r.drop off).drop i = r[off + i] :: (r.drop off).drop (i + 1) by
    rw [List.drop_drop, List.drop_drop, List.drop_eq_getElem_cons hlt]; rfl]
   rfl
 rw [List.range_eq_range']
 simpa using key m 0 (by omega)
theorem pP : ∀ {l : List BV} {H : Heap} {X : Own}, Cons H (l.map BV.obj ++ X) → ∀ b ∈ l, (H.insAll l) b.r = some b.obj.2
 | [], _, _, _, b, h => by simp at h
 | c :: l, H, X, hc, b, hb => by
  obtain ⟨w, F, hm⟩ := hc
  simp only [List.map_cons, List.cons_append] at hm
  have hf : Models w (H.ins c.r c.obj.2) (l.map BV.obj ++ X ++ F) := Models.freeze hm
  simp only [Heap.insAll]
  rcases List.mem_cons.1 hb with rfl | hb
  ·refine (Heap.le_insAll l _).1 b.r _ ?_
   have := (hm.own (b.obj) (by simp)).2
   simp only [Heap.ins, show H b.r = none from this, if_true]
  ·exact pP (X := X) ⟨w, F, hf⟩ b hb
theorem iN {H : Heap} {r : Nat} {cs : List Value} {T : TypeId} (h : H r = some (.cells cs.toArray T (0, 0))) {off m : Nat} (hle : off + m ≤ cs.length) :
  H.read (.pointer (some ⟨r, off, none⟩)) m = some ((cs.drop off).take m) := by
 simp only [Heap.read]
 have key : ∀ (n i : Nat), i + n = m → (List.range' i n).mapM (fun i => H.cell? ((⟨r, off, none⟩ : Addr).add i)) = some (((cs.drop off).drop i).take n) := by
  intro n
  induction n with
  | zero => intro i _; simp
  | succ n ih =>
   intro i hi
   have hlt : off + i < cs.length := by omega
   have hc : H.cell? ((⟨r, off, none⟩ : Addr).add i) = some cs[off + i] := by
    rw [aZ]
    simp [Heap.cell?, h, hlt]
   rw [List.range'_succ, List.mapM_cons, hc, ih (i + 1) (by omega)]
   simp only [Option.pure_def, Option.bind_eq_bind, Option.bind_some]
   congr 1
   rw [show (cs.drop off).drop i = cs[off + i] :: (cs.drop off).drop (i + 1) by
    rw [List.drop_drop, List.drop_drop, List.drop_eq_getElem_cons hlt]; rfl]
   rfl
 rw [List.range_eq_range']
 simpa using key m 0 (by omega)
theorem Arr.block {H : Heap} {r : Nat} {cs : List Value} {T : TypeId} (h : H r = some (.cells cs.toArray T (0, 0))) (ho : Ones cs) : Arr H 1 ⟨r, 0, none⟩ (cs.map fun v => [v]) := by
 intro i x hx
 rw [List.getElem?_map, Option.map_eq_some_iff] at hx
 obtain ⟨v, hv, rfl⟩ := hx
 have hlt := (List.getElem?_eq_some_iff.1 hv).1
 have hg := ho.get i hlt
 rw [Ez hv] at hg
 refine ⟨?_, rfl, hg, trivial⟩
 rw [aZ, iN h (by omega), Nat.zero_add, Nat.mul_one, List.drop_eq_getElem_cons hlt]
 rw [List.getElem?_eq_getElem hlt] at hv
 simp only [Option.some.injEq] at hv
 simp [hv]
theorem Sl.block {H : Heap} {r : Nat} {cs : List Value} {T : TypeId} (h : H r = some (.cells cs.toArray T (0, 0))) (ho : Ones cs) {n : Nat} (hn : n = cs.length) (hb : n < 2 ^ 63) :
  Sl H 1 (.slice (some ⟨r, 0, none⟩) n n) (cs.map fun v => [v]) := by
 subst hn
 exact ⟨_, _, by simp, by simp, hb, fun _ => ⟨_, rfl, Arr.block h ho⟩⟩
abbrev Str (l : List UInt8) : Value := .string ⟨l.toArray⟩
theorem ym (l : List UInt8) : (⟨l.toArray⟩ : ByteArray).toList = l := by
 rw [ByteArray.toList_eq]
theorem ET (l : List UInt8) : (⟨l.toArray⟩ : ByteArray).size = l.length := by simp [ByteArray.size]
theorem BH (a b : List UInt8) : af (.bin .neq .str) [Str a, Str b] = some (.bool (!(a == b))) := by
 simp only [af, ct, oe, ym]
theorem BI (a : List UInt8) : af .slen [Str a] = some (.int .i64 a.length) := by
 simp only [af, ET]; rfl
def By (I : List Value → Heap → Own → Prop) (μ : List Value → Heap → Own → Nat) (m : Nat) : List Value → Heap → Own → Prop :=
 fun vs' H'' O'' => Cons H'' O'' → ∃ H3 O3, Ghost H'' O'' H3 O3 ∧ I vs' H3 O3 ∧ μ vs' H3 O3 < m
theorem mA {P : Program} {lab key : Nat} {init : List Value} {body : (List Value → Heap → Own → Prop) → List Value → Tree} {H : Heap} {O : Own} {Q : Value → Heap → Own → Prop}
  (I : List Value → Heap → Own → Prop) (μ : List Value → Heap → Own → Nat) (h0 : I init H O)
  (step : ∀ vs H' O', vs.length = init.length → Ones vs → Heap.le H H' → I vs H' O' → (body (By I μ (μ vs H' O')) vs).den P Q H' O') : (Tree.loop lab key init body).den P Q H O :=
 ⟨I, μ, fun _ => ⟨H, O, Ghost.refl _ _, h0⟩, step⟩
theorem kj {P : Program} {lab m : Nat} {I : List Value → Heap → Own → Prop} {μ : List Value → Heap → Own → Nat} {vals : List Value} {eqs : List (List Value × List Value)} {H : Heap} {O : Own} {Q : Value → Heap → Own → Prop}
  (he : Eqs eqs) (hi : I vals H O) (hm : μ vals H O < m) : (Tree.cont lab (By I μ m) vals eqs).den P Q H O := ⟨he, fun _ => ⟨H, O, Ghost.refl _ _, hi, hm⟩⟩
theorem cT {P : Program} {lab key : Nat} {body : (List Value → Heap → Own → Prop) → List Value → Tree} {H : Heap} {O : Own} {Q : Value → Heap → Own → Prop} (n : Nat) (R : Nat → Heap → Own → Prop)
  (h0 : R 0 H O) (step : ∀ i H' O', i ≤ n → Heap.le H H' → R i H' O' → (body (By (fun vs H O => ∃ i : Nat, vs = [.int .i64 i] ∧ i ≤ n ∧ R i H O) (fun vs _ _ => match g vs 0 with | .int _ k => n - k.toNat | _ => 0) (n - i)) [.int .i64 i]).den P Q H' O') :
  (Tree.loop lab key [.int .i64 0] body).den P Q H O := by
 refine mA (fun vs H O => ∃ i : Nat, vs = [.int .i64 i] ∧ i ≤ n ∧ R i H O) (fun vs _ _ => match g vs 0 with | .int _ k => n - k.toNat | _ => 0) ⟨0, rfl, Nat.zero_le _, h0⟩ ?_
 rintro vs H' O' _ _ hle ⟨i, rfl, hi, hr⟩
 exact step i H' O' hi hle hr
theorem cK {P : Program} {lab n i : Nat} {R : Nat → Heap → Own → Prop} {eqs : List (List Value × List Value)} {H : Heap} {O : Own} {Q : Value → Heap → Own → Prop} (he : Eqs eqs) (hi : i < n) (hr : R (i + 1) H O) :
  (Tree.cont lab (By (fun vs H O => ∃ i : Nat, vs = [.int .i64 i] ∧ i ≤ n ∧ R i H O) (fun vs _ _ => match g vs 0 with | .int _ k => n - k.toNat | _ => 0) (n - i)) [.int .i64 ((i + 1 : Nat) : Int)] eqs).den P Q H O := by
 refine kj he ⟨i + 1, rfl, hi, hr⟩ ?_
 show n - ((i + 1 : Nat) : Int).toNat < n - i
 simp; omega
theorem jo {n : Int} (h1 : -9223372036854775808 ≤ n) (h2 : n ≤ 9223372036854775807) : IntKind.i64.wrap n = n := by
 simp only [IntKind.wrap, IntKind.bits, IntKind.signed]
 simp
 omega
theorem yp {i n : Nat} (h : i + n < 2 ^ 63) : af (.bin .add .int) [.int .i64 (i : Int), .int .i64 (n : Int)] = some (.int .i64 ((i + n : Nat) : Int)) := by
 simp only [af, ct, bW, if_true]
 rw [jo (by omega) (by omega)]
 simp
theorem bX {i : Nat} (h : i + 1 < 2 ^ 63) : af (.bin .add .int) [.int .i64 (i : Int), .int .i64 1] = some (.int .i64 ((i + 1 : Nat) : Int)) := yp (n := 1) h
theorem bJ (a b : Int) : af (.bin .lss .int) [.int .i64 a, .int .i64 b] = some (.bool (decide (a < b))) := by simp [af, ct, bW]
theorem ij (a b : Int) : af (.bin .gtr .int) [.int .i64 a, .int .i64 b] = some (.bool (decide (a > b))) := by simp [af, ct, bW]
theorem nR (a b : Int) : af (.bin .leq .int) [.int .i64 a, .int .i64 b] = some (.bool (decide (a ≤ b))) := by simp [af, ct, bW]
theorem ik (a b : Int) : af (.bin .geq .int) [.int .i64 a, .int .i64 b] = some (.bool (decide (a ≥ b))) := by simp [af, ct, bW]
theorem fU (a b : Int) : af (.bin .eql .int) [.int .i64 a, .int .i64 b] = some (.bool (a == b)) := by simp [af, ct, bW]
theorem sn (a b : Int) : af (.bin .neq .int) [.int .i64 a, .int .i64 b] = some (.bool (a != b)) := by simp [af, ct, bW]
theorem aI (b : Bool) : af .not [.bool b] = some (.bool (!b)) := rfl
theorem bQ (b c : Bool) : af .pick [.bool b, .bool true, .bool c] = some (.bool (b || c)) := by cases b <;> rfl
theorem dt (b c : Bool) : af .pick [.bool b, .bool c, .bool false] = some (.bool (b && c)) := by cases b <;> rfl
theorem yl (b c : Bool) : af (.bin .eql .bool) [.bool b, .bool c] = some (.bool (b == c)) := rfl
theorem yj (b c : Bool) : af (.bin .neq .bool) [.bool b, .bool c] = some (.bool (!(b == c))) := rfl
def RetO (P : Program) (f : FuncId) (args : List Value) (H : Heap) (O : Own) (r : Value) : Prop := Triple P f args H O fun v _ O' => v = r ∧ O' = O
theorem am {P : Program} {f : FuncId} {args : List Value} {H : Heap} {O : Own} {r : Value} {d : Bool} {shp : Shp} {K : List Value → List (List Value) → Heap → Own → Prop} {vs : List Value}
  (h : RetO P f args H O r) (ho : shp.open r = some vs) (h1 : Ones vs) (hk : ∀ H', Heap.le H H' → K vs [] H' O) :
  er (fun H1 O1 R => Triple P f args H1 O1 R) d [] [] shp K H O := by
 intro _
 refine ⟨H, O, [], fun v _ O' => v = r ∧ O' = O, ?_, h, ?_⟩
 ·cases d
  ·show Ghost H O H (O ++ [])
   rw [List.append_nil]; exact Ghost.refl _ _
  ·exact ⟨rfl, .inr ⟨rfl, rfl, rfl, fun v H' O' h => h.2⟩⟩
 ·rintro v H' O' ⟨rfl, rfl⟩ hle
  exact ⟨vs, [], O', ho, h1, trivial, rfl, by rw [List.append_nil]; exact hk H' hle⟩
theorem j2 : ∀ own : List BV, eW own (own.map (·.vs)) = own
 | [] => rfl
 | b :: r => by rw [List.map_cons, eW, j2 r]
theorem ak {P : Program} {v : Value} {H : Heap} {O : Own} {Q : Value → Heap → Own → Prop} (h : Q v H O) : (Tree.ret v []).den P Q H O := fun _ => ⟨H, O, Ghost.refl _ _, h⟩
end Go.Sx
namespace Go.Sx
open Go Go.ChangeShapes Go.WideShapes
def sJ (W : World) : Heap := ⟨fun b => W.heap[b]?, dA W⟩
theorem tX (W : World) (a : Addr) : (sJ W).cell? a = W.cell? a := rfl
theorem qQ (W : World) : Models W (sJ W) [] := ⟨fun _ _ h => h, by simp, by simp, rfl⟩
def Wf (P : Program) (H : Heap) : Nat → TypeId → List Value → Prop
 | 0, _, _ => False
 | n + 1, t, cs =>
  match P.underlying t with
  | some .bool => ∃ b, cs = [.bool b]
  | some (.int k) => ∃ x, cs = [.int k x] ∧ k.min ≤ x ∧ x ≤ k.max
  | some .string => ∃ l, cs = [Str l] ∧ l.length < 2 ^ 63
  | some (.slice e) => ∃ s rows, cs = [s] ∧ Sl H (P.cellsOf e) s rows ∧ ∀ r ∈ rows, Wf P H n e r
  | some (.struct fs) => cs.length = P.cellsOf t ∧ ∀ f ∈ fs.toList, Wf P H n f.type ((cs.drop f.offset).take (P.cellsOf f.type))
  | some (.array m e) => cs.length = P.cellsOf t ∧ ∀ i, i < m → Wf P H n e ((cs.drop (i * P.cellsOf e)).take (P.cellsOf e))
  | _ => True
variable {H : Type} {enc : TypeId × Value → H} {P : Program} {w : World} {base : Nat} {sp : Nat → Bool} {held : Bool}
theorem nC {cs : List Value} (h : ∀ v ∈ cs, v.oneCell' = true) : Ones cs := by
 induction cs with
 | nil => trivial
 | cons v r ih => exact ⟨h v (by simp), ih fun u hu => h u (by simp [hu])⟩
theorem my {cs : List Value} (h : Ones cs) : ∀ v ∈ cs, v.oneCell' = true := by
 induction cs with
 | nil => simp
 | cons v r ih => intro u hu; rcases List.mem_cons.1 hu with rfl | hu; exact h.1; exact ih h.2 u hu
def Kept (W W' : World) : Prop := dA W' = dA W ∧ ∀ (b : Nat) (o : Obj), W.heap[b]? = some o → W'.heap[b]? = some o
theorem Kept.keptBut {W W' : World} (h : Kept W W') (may : MemPlace → Prop) : W.keptBut W' may := by
 obtain ⟨h1, h2⟩ := h
 simp only [dA, Prod.mk.injEq] at h1
 refine ⟨h1.1, h1.2.2, fun i hi => ?_⟩
 have e1 : W.heap[i]? = some W.heap[i] := Array.getElem?_eq_getElem hi
 have e2 := h2 i _ e1
 rw [e1, e2]
 cases W.heap[i] with
 | cells c t fr => exact ⟨rfl, rfl, rfl, fun _ _ => rfl⟩
 | map es clock => exact .inr ⟨rfl, rfl⟩
 | _ => rfl
theorem Kept.same {W W' : World} (h : Kept W W') {p : MemPlace} (hp : p.block < W.heap.size) : W.sameAt W' p := by
 have e2 := h.2 p.block _ (Array.getElem?_eq_getElem hp)
 rw [← Array.getElem?_eq_getElem hp] at e2
 cases p with
 | cell b off => simp only [MemPlace.block] at e2; simp only [World.sameAt, World.cell?, e2]
 | map b => exact e2
theorem Kept.trodAll {W W' : World} (h : Kept W W') (hl : laidOutB P = true) {B : Nat} : ∀ {ts : List TypeId} {vs : List Value} {ds : List (DataW H)} {ps : List MemPlace}, (∀ t ∈ ts, P.readableRec t = true ∧ t < P.types.size) →
  DataW.TrodAll enc P W 0 (fun _ => true) true ts vs ds ps → (∀ p ∈ ps, p.block < W.heap.size) → DataW.TrodAll enc P W' 0 (fun b => decide (b < W.heap.size)) true ts vs ds ps
 | [], [], [], _, _, h', _ => h'
 | _ :: _, _ :: _, _ :: _, _, ht, ⟨p, q, h1, h2, e⟩, hlt => by
  subst e
  refine ⟨p, q, ?_, h.trodAll hl (B := B) (fun t hm => ht t (by simp [hm])) h2 (fun x hx => hlt x (by simp [hx])), rfl⟩
  exact WideElems.Trod_stays hl (ht _ (by simp)).1 (ht _ (by simp)).2 h1 (fun x hx => h.same (hlt x (by simp [hx]))) (fun x hx => by simpa using hlt x (by simp [hx]))
 | [], _ :: _, _, _, _, h', _ => h'.elim
 | [], [], _ :: _, _, _, h', _ => h'.elim
 | _ :: _, [], _, _, _, h', _ => h'.elim
 | _ :: _, _ :: _, [], _, _, h', _ => h'.elim
theorem xq {f : FuncId} {fn : Func} {s : ChangeSpec} {W : World} {args : Array Value} {ds : List (DataW H)} {before : List MemPlace} {tb : TypeId}
  (hT : Triple P f args.toList (sJ W) [] fun v _ O' => v = .bool true ∧ O' = [])
  (hW : DataW.Whole enc P fn.params.toList s.vars false W args.toList ds [] before) (hv : s.vars = []) (hs : s.fn H ds = { results := [.lit (.bool true)], args := ds })
  (hrt : fn.resultTypes = #[tb]) (htb : P.underlying tb = some .bool) (hl : laidOutB P = true) (hts : ∀ t ∈ fn.params.toList, P.readableRec t = true ∧ t < P.types.size) :
  Calls P f args W fun e W' => ∃ v, e = .returned v ∧ s.post enc P fn false true false false W args v W' := by
 have hc := hT W [] (by simpa using qQ W)
 refine hc.mono ?_
 rintro e W' ⟨v, H', O', rfl, ⟨rfl, rfl⟩, hle, hm⟩
 refine ⟨_, rfl, ?_⟩
 have hk : Kept W W' := ⟨by rw [hm.env, hle.2]; rfl, fun b o hb => hm.pers b o (hle.1 b o hb)⟩
 have hW' := hW
 obtain ⟨p, q, h1, h2, h3, h4, h5⟩ := hW
 rw [hv] at h2
 have hq : q = [] := h2
 subst hq
 subst h3
 have hlt : ∀ x ∈ p, x.block < W.heap.size := fun x hx => hW'.lt x (by simp [hx])
 refine ⟨ds, [], p ++ [], [], p, [], hW', ?_, ?_, ?_, hk.keptBut _, fun h => by cases h⟩
 ·rw [List.append_nil, hs, hrt]
  exact trodAll_mk1 (RowKit.shut_bool htb true)
 ·rw [List.append_nil, hs]
  exact hk.trodAll hl (B := 0) hts h1 hlt
 ·rw [List.append_nil, hs, hv]; rfl
end Go.Sx
namespace Go.Sx
open Go
def Leaf (P : Program) (H : Heap) (t : TypeId) (c : Value) : Prop := ∃ k, Wf P H k t [c]
theorem Leaf.int {P : Program} {H : Heap} {t : TypeId} {k : IntKind} {c : Value} (hu : P.underlying t = some (.int k)) (h : Leaf P H t c) : ∃ x, c = .int k x ∧ k.min ≤ x ∧ x ≤ k.max := by
 obtain ⟨n, h⟩ := h
 cases n with
 | zero => exact h.elim
 | succ n => unfold Wf at h; rw [hu] at h; obtain ⟨x, h1, h2⟩ := h; exact ⟨x, (List.cons.inj h1).1, h2⟩
theorem Leaf.bool {P : Program} {H : Heap} {t : TypeId} {c : Value} (hu : P.underlying t = some .bool) (h : Leaf P H t c) : ∃ x, c = .bool x := by
 obtain ⟨n, h⟩ := h
 cases n with
 | zero => exact h.elim
 | succ n => unfold Wf at h; rw [hu] at h; obtain ⟨x, h1⟩ := h; exact ⟨x, (List.cons.inj h1).1⟩
theorem Leaf.str {P : Program} {H : Heap} {t : TypeId} {c : Value} (hu : P.underlying t = some .string) (h : Leaf P H t c) : ∃ l, c = Str l ∧ l.length < 2 ^ 63 := by
 obtain ⟨n, h⟩ := h
 cases n with
 | zero => exact h.elim
 | succ n => unfold Wf at h; rw [hu] at h; obtain ⟨x, h1, h2⟩ := h; exact ⟨x, (List.cons.inj h1).1, h2⟩
theorem Leaf.slice {P : Program} {H : Heap} {t e : TypeId} {c : Value} (hu : P.underlying t = some (.slice e)) (h : Leaf P H t c) : ∃ rows, Sl H (P.cellsOf e) c rows ∧ ∃ n, ∀ r ∈ rows, Wf P H n e r := by
 obtain ⟨n, h⟩ := h
 cases n with
 | zero => exact h.elim
 | succ n =>
  unfold Wf at h; rw [hu] at h
  obtain ⟨s, rows, h1, h2, h3⟩ := h
  obtain rfl := (List.cons.inj h1).1
  exact ⟨rows, h2, n, h3⟩
def OSl (e : TypeId) (size : Nat) (v : Value) (rows : List (List Value)) (O : Own) : Prop :=
 ((∃ a, v = .slice a 0 0) ∧ rows = [] ∧ O = []) ∨
 ∃ (r : Nat) (cs : List Value) (cap : Nat), v = .slice (some ⟨r, 0, none⟩) rows.length cap ∧ O = [(r, .cells cs.toArray e (0, 0))] ∧ cs.length = cap * size ∧ rows.length ≤ cap ∧ cap < 2 ^ 63 ∧
  (∀ row ∈ rows, row.length = size) ∧ (∀ row ∈ rows, Ones row) ∧ cs.take (rows.length * size) = rows.flatten
theorem OSl.nil (e : TypeId) (size : Nat) : OSl e size (.slice none 0 0) [] [] := .inl ⟨⟨none, rfl⟩, rfl, rfl⟩
theorem OSl.one {e : TypeId} {size : Nat} {v : Value} {rows : List (List Value)} {O : Own} (h : OSl e size v rows O) : v.oneCell' = true := by
 rcases h with ⟨⟨a, rfl⟩, _⟩ | ⟨r, cs, cap, rfl, _⟩ <;> rfl
theorem OSl.len {e : TypeId} {size : Nat} {v : Value} {rows : List (List Value)} {O : Own} (h : OSl e size v rows O) : af .len [v] = some (.int .i64 rows.length) := by
 rcases h with ⟨⟨a, rfl⟩, rfl, _⟩ | ⟨r, cs, cap, rfl, _⟩ <;> rfl
theorem OSl.lenB {e : TypeId} {size : Nat} {v : Value} {rows : List (List Value)} {O : Own} (h : OSl e size v rows O) : rows.length < 2 ^ 63 := by
 rcases h with ⟨⟨a, rfl⟩, rfl, _⟩ | ⟨r, cs, cap, rfl, _, _, h1, h2, _⟩
 ·simp
 ·omega
theorem dO {size : Nat} : ∀ {rows : List (List Value)}, (∀ row ∈ rows, row.length = size) → rows.flatten.length = rows.length * size
 | [], _ => by simp
 | r :: rs, h => by
  rw [List.flatten_cons, List.length_append, dO (fun x hx => h x (by simp [hx])), h r (by simp), List.length_cons, Nat.add_mul]; omega
theorem dP {size : Nat} : ∀ {rows : List (List Value)} {i : Nat} {row : List Value}, (∀ row ∈ rows, row.length = size) → rows[i]? = some row → (rows.flatten.drop (i * size)).take size = row
 | [], i, row, _, h => by simp at h
 | r :: rs, 0, row, hl, h => by
  simp at h; subst h
  have : r.length = size := hl r (by simp)
  simp [this]
 | r :: rs, i + 1, row, hl, h => by
  have hr : r.length = size := hl r (by simp)
  rw [List.flatten_cons, Nat.add_mul, Nat.one_mul, Nat.add_comm, ← List.drop_drop, ← hr, List.drop_left, hr]
  exact dP (fun x hx => hl x (by simp [hx])) (by simpa using h)
theorem Ones.drop {vs : List Value} (h : Ones vs) (n : Nat) : Ones (vs.drop n) := nC fun v hv => my h v (List.mem_of_mem_drop hv)
theorem Ones.take {vs : List Value} (h : Ones vs) (n : Nat) : Ones (vs.take n) := nC fun v hv => my h v (List.mem_of_mem_take hv)
theorem OSl.rows_ok {e : TypeId} {size : Nat} {v : Value} {rows : List (List Value)} {O : Own} (h : OSl e size v rows O) {i : Nat} {row : List Value} (hr : rows[i]? = some row) : row.length = size ∧ Ones row := by
 rcases h with ⟨⟨a, rfl⟩, rfl, _⟩ | ⟨r, cs, cap, rfl, _, _, _, _, hl, ho, ht⟩
 ·simp at hr
 ·exact ⟨hl row (List.mem_of_getElem? hr), ho row (List.mem_of_getElem? hr)⟩
theorem OSl.idx {e : TypeId} {size : Nat} {v : Value} {rows : List (List Value)} {O1 O : Own} (h : OSl e size v rows O1) (hO : ∀ p ∈ O1, p ∈ O) (H : Heap) {k : IntKind} {i : Nat} {row : List Value} (hr : rows[i]? = some row) :
  ∃ a, af (.idx size) [v, .int k i] = some (.pointer (some a)) ∧ a.spot = none ∧ Reads H O (.pointer (some a)) size row ∧ ∀ off m, off + m ≤ size → Reads H O (dq (.pointer (some a)) off) m ((row.drop off).take m) := by
 have hrow := h.rows_ok hr
 rcases h with ⟨⟨a, rfl⟩, rfl, _⟩ | ⟨r, cs, cap, rfl, rfl, hcl, hlc, _, hl, ho, ht⟩
 ·simp at hr
 ·have hlt : i < rows.length := (List.getElem?_eq_some_iff.1 hr).1
  have hfl := dP hl hr
  have hmul : (i + 1) * size ≤ rows.length * size := Nat.mul_le_mul_right _ hlt
  have hmul2 : rows.length * size ≤ cap * size := Nat.mul_le_mul_right _ hlc
  rw [Nat.add_mul, Nat.one_mul] at hmul
  have hget : (cs.drop (i * size)).take size = row := by
   rw [← hfl, ← ht, List.drop_take, List.take_take, Nat.min_eq_left (by omega)]
  refine ⟨⟨r, i * size, none⟩, ?_, rfl, .inr ⟨_, cs.toArray, e, rfl, rfl, hO _ (by simp), by simpa using hget, hrow.1⟩, fun off m hle => .inr ⟨⟨r, i * size + off, none⟩, cs.toArray, e, ?_, rfl, hO _ (by simp), ?_, ?_⟩⟩
  ·simp only [af, gx]
   rw [if_pos ⟨by omega, by omega⟩, aZ]
   simp
  ·show Value.pointer (some ((⟨r, i * size, none⟩ : Addr).add off)) = _
   rw [aZ]
  ·rw [← hget, List.drop_take, List.take_take, Nat.min_eq_left (by omega), List.drop_drop]
  ·rw [List.length_take, List.length_drop]; omega
theorem ba {P : Program} {p : Value} {m : Nat} {vs : List Value} {k : List Value → Tree} {H : Heap} {O : Own} {Q : Value → Heap → Own → Prop} (h : Reads H O p m vs) (hl : vs.length = m) (ho : Ones vs)
  (hk : (k vs).den P Q H O) : (Tree.load [] p m k).den P Q H O := ⟨vs, hl, ho, fun _ => h, hk⟩
theorem OSl.store {e : TypeId} {size : Nat} {v : Value} {rows : List (List Value)} {O1 O2 O : Own} (h : OSl e size v rows O1) (hO : O.Perm (O1 ++ O2)) {k : IntKind} {i : Nat} {row : List Value} (hr : rows[i]? = some row) :
  ∃ a, af (.idx size) [v, .int k i] = some (.pointer (some a)) ∧ ∀ off ys, off + ys.length ≤ size → Ones ys → ∃ O1', mJ O (dq (.pointer (some a)) off) ys (O1' ++ O2) ∧ OSl e size v (rows.set i (cd row off ys)) O1' := by
 have hrow := h.rows_ok hr
 rcases h with ⟨⟨a, rfl⟩, rfl, _⟩ | ⟨r, cs, cap, rfl, rfl, hcl, hlc, hcap, hl, ho, ht⟩
 ·simp at hr
 ·have hlt : i < rows.length := (List.getElem?_eq_some_iff.1 hr).1
  have hfl := dP hl hr
  have hmul : (i + 1) * size ≤ rows.length * size := Nat.mul_le_mul_right _ hlt
  have hmul2 : rows.length * size ≤ cap * size := Nat.mul_le_mul_right _ hlc
  rw [Nat.add_mul, Nat.one_mul] at hmul
  refine ⟨⟨r, i * size, none⟩, ?_, fun off ys hle hys => ⟨[(r, .cells (cd cs (i * size + off) ys).toArray e (0, 0))], ⟨⟨r, i * size + off, none⟩, cs.toArray, e, O2, ?_, rfl, hO, ?_, ?_⟩, .inr ⟨r, cd cs (i * size + off) ys, cap, ?_, rfl, ?_, ?_, hcap, ?_, ?_, ?_⟩⟩⟩
  ·simp only [af, gx]
   rw [if_pos ⟨by omega, by omega⟩, aZ]
   simp
  ·show Value.pointer (some ((⟨r, i * size, none⟩ : Addr).add off)) = _
   rw [aZ]
  ·simp; omega
  ·simp
  ·simp
  ·simp only [cd, List.length_append, List.length_take, List.length_drop]; omega
  ·simpa using hlc
  ·intro x hx
   rcases List.mem_or_eq_of_mem_set hx with hx | rfl
   ·exact hl x hx
   ·simp only [cd, List.length_append, List.length_take, List.length_drop]; omega
  ·intro x hx
   rcases List.mem_or_eq_of_mem_set hx with hx | rfl
   ·exact ho x hx
   ·simp only [cd]
    exact Ones.append.2 ⟨Ones.append.2 ⟨hrow.2.take _, hys⟩, hrow.2.drop _⟩
  ·
   have key : ∀ (rows : List (List Value)) (i : Nat) (cs : List Value), (∀ row ∈ rows, row.length = size) → rows[i]? = some row → cs.take (rows.length * size) = rows.flatten → rows.length * size ≤ cs.length →
     (cd cs (i * size + off) ys).take (rows.length * size) = (rows.set i (cd row off ys)).flatten := by
    intro rows
    induction rows with
    | nil => intro i cs _ h; simp at h
    | cons r0 rs ih =>
     intro i cs hl hi ht hcl
     have hr0 : r0.length = size := hl r0 (by simp)
     rw [List.length_cons, Nat.add_mul, Nat.one_mul, List.flatten_cons] at ht
     rw [List.length_cons, Nat.add_mul, Nat.one_mul] at hcl
     have e0 : cs.take size = r0 := by
      have := congrArg (fun l => l.take size) ht
      simpa [List.take_take, hr0, Nat.min_eq_left] using this
     have e1 : (cs.drop size).take (rs.length * size) = rs.flatten := by
      have := congrArg (fun l => l.drop size) ht
      rw [List.drop_take] at this
      simpa [hr0] using this
     cases i with
     | zero =>
      simp only [List.getElem?_cons_zero, Option.some.injEq] at hi
      subst hi
      simp only [List.set_cons_zero, List.length_cons, List.flatten_cons, Nat.zero_mul, Nat.zero_add]
      have : cd cs off ys = cd r0 off ys ++ cs.drop size := by
       simp only [cd]
       rw [← e0, List.take_take, Nat.min_eq_left (by omega), List.drop_take, List.append_assoc, List.append_assoc, List.append_assoc]
       congr 2
       rw [show cs.drop size = (cs.drop (off + ys.length)).drop (size - (off + ys.length)) by rw [List.drop_drop]; congr 1; omega, List.take_append_drop]
      rw [this, Nat.add_mul, Nat.one_mul, Nat.add_comm, List.take_append]
      have hsl : (cd r0 off ys).length = size := by simp only [cd, List.length_append, List.length_take, List.length_drop]; omega
      rw [hsl, Nat.add_sub_cancel_left, e1, List.take_of_length_le (by omega)]
     | succ i =>
      have hi' : rs[i]? = some row := by simpa using hi
      have := ih i (cs.drop size) (fun x hx => hl x (by simp [hx])) hi' e1 (by rw [List.length_drop]; omega)
      simp only [List.set_cons_succ, List.length_cons, List.flatten_cons]
      rw [← this]
      have e2 : cd cs ((i + 1) * size + off) ys = cs.take size ++ cd (cs.drop size) (i * size + off) ys := by
       simp only [cd]
       rw [← List.append_assoc, ← List.append_assoc, List.drop_drop]
       congr 1
       ·congr 1
        rw [show (i + 1) * size + off = size + (i * size + off) by rw [Nat.add_mul]; omega, List.take_add]
       ·congr 1; rw [Nat.add_mul]; omega
      rw [e2, e0, Nat.add_mul, Nat.one_mul, Nat.add_comm, List.take_append, hr0, Nat.add_sub_cancel_left, List.take_of_length_le (by omega)]
   have := key rows i cs hl hr ht (by omega)
   simpa using this
theorem OSl.freeze {e : TypeId} {size : Nat} {v : Value} {rows : List (List Value)} {O1 X : Own} {H : Heap} (h : OSl e size v rows O1) (hc : Cons H (O1 ++ X)) : ∃ H', Ghost H (O1 ++ X) H' X ∧ Sl H' size v rows ∧ Heap.le H H' := by
 rcases h with ⟨⟨a, rfl⟩, rfl, rfl⟩ | ⟨r, cs, cap, rfl, rfl, hcl, hlc, hcap, hl, ho, ht⟩
 ·exact ⟨H, Ghost.refl _ _, ⟨a, 0, rfl, Nat.le_refl _, by omega, fun h => absurd rfl h⟩, Heap.le_refl H⟩
 ·have hn : H r = none := hc.none (p := (r, .cells cs.toArray e (0, 0))) (by simp)
  refine ⟨H.ins r (.cells cs.toArray e (0, 0)), Ghost.freeze H r _ X, ⟨_, cap, rfl, hlc, hcap, fun _ => ⟨_, rfl, fun i row hr => ?_⟩⟩, Heap.le_ins H r _⟩
  have hb : (H.ins r (.cells cs.toArray e (0, 0))) r = some (.cells cs.toArray e (0, 0)) := by simp only [Heap.ins, hn, if_true]
  have hlt : i < rows.length := (List.getElem?_eq_some_iff.1 hr).1
  have hmul : (i + 1) * size ≤ rows.length * size := Nat.mul_le_mul_right _ hlt
  have hmul2 : rows.length * size ≤ cap * size := Nat.mul_le_mul_right _ hlc
  rw [Nat.add_mul, Nat.one_mul] at hmul
  refine ⟨?_, hl row (List.mem_of_getElem? hr), ho row (List.mem_of_getElem? hr)⟩
  rw [aZ, Nat.zero_add, iN hb (by omega), ← dP hl hr, ← ht, List.drop_take, List.take_take, Nat.min_eq_left (by omega)]
def yn (P : Program) (t e : TypeId) (size bytes : Nat) : Bool :=
 match P.underlying t, P.info? e with
 | some (.slice e'), some i => e' == e && i.size == size && i.bytes == bytes && (i.zero.map fun z => z.cells.size == size).getD false && decide (0 < size)
 | _, _ => false
theorem wC {size : Nat} {a : Addr} {news : List (List Value)} {H : Heap} {w : World} {O : Own} (h0 : 0 < size) (hA : news ≠ [] → Arr H size a news) (hm : Models w H O) :
  (∀ row ∈ news, row.length = size ∧ Ones row) ∧ ∀ j u, news.flatten[j]? = some u → w.cell? (a.add j) = some u := by
 have hnl : ∀ row ∈ news, row.length = size ∧ Ones row := fun row hr => by
  obtain ⟨i, hi⟩ := List.mem_iff_getElem?.1 hr
  exact (hA (by intro e; rw [e] at hr; simp at hr) i row hi).2
 refine ⟨hnl, fun j u hj => ?_⟩
 have hne : news ≠ [] := by intro e; rw [e] at hj; simp at hj
 have hjl : j < news.length * size := by
  have := (List.getElem?_eq_some_iff.1 hj).1
  rwa [dO fun r hr => (hnl r hr).1] at this
 have hq : j / size < news.length := (Nat.div_lt_iff_lt_mul h0).2 hjl
 obtain ⟨hr1, hr2, _⟩ := hA hne (j / size) news[j / size] (List.getElem?_eq_getElem hq)
 have hfg := dP (fun r hr => (hnl r hr).1) (List.getElem?_eq_getElem hq)
 have hdm : size * (j / size) + j % size = j := Nat.div_add_mod j _
 have hu2 : news[j / size][j % size]? = some u := by
  rw [← hfg, List.getElem?_take, if_pos (Nat.mod_lt _ h0), List.getElem?_drop, Nat.mul_comm, hdm, hj]
 simp only [Heap.read] at hr1
 obtain ⟨k, hk, hc⟩ := j5 hr1 (j % size) u hu2
 have : k = j % size := by
  rw [List.getElem?_range (Nat.mod_lt _ h0)] at hk
  simpa using hk.symm
 subst this
 have := hm.cell? hc
 rwa [oJ, Nat.mul_comm, hdm] at this
theorem xg {w w' : World} {H : Heap} {F : Own} {e : TypeId} {size : Nat} {v' : Value} {rows : List (List Value)} (hm : Models w H F) (hrows : ∀ row ∈ rows, row.length = size ∧ Ones row)
  (ho : w'.ownsRow w.heap.size e size v' rows.length rows.flatten) (hg : w.grownBy w' none) : ∃ O', OSl e size v' rows O' ∧ Models w' H (O' ++ F) := by
 have hlt : ∀ b (o : Obj), w.heap[b]? = some o → b < w.heap.size := fun b o hb => (Array.getElem?_eq_some_iff.1 hb).1
 have hother : ∀ b (o : Obj), w.heap[b]? = some o → w'.heap[b]? = some o := fun b o hb => by
  rw [hg.block b (hlt b o hb) (by simp)]; exact hb
 have henv : dA w' = dA w := by simp only [dA, hg.os, hg.tape, hg.output]
 rcases ho.2 with ⟨rfl, hn0⟩ | ⟨gb, cap', cur, rfl, hgb0, hgb, hnc, hcm, hcs, htk⟩
 ·exact ⟨[], .inl ⟨⟨none, rfl⟩, List.eq_nil_of_length_eq_zero hn0, rfl⟩, ⟨fun b o hb => hother b o (hm.pers b o hb), fun p hp => ⟨hother _ _ (hm.own p (by simpa using hp)).1, (hm.own p (by simpa using hp)).2⟩, by simpa using hm.nodup, henv.trans hm.env⟩⟩
 ·refine ⟨[(gb, .cells cur e (0, 0))], .inr ⟨gb, cur.toList, cap', rfl, by simp, by simpa using hcs, hnc, by simp only [maxLen] at hcm; omega, fun r hr => (hrows r hr).1, fun r hr => (hrows r hr).2, htk⟩,
   ⟨fun b o hb => hother b o (hm.pers b o hb), fun p hp => ?_, ?_, henv.trans hm.env⟩⟩
  ·rcases List.mem_append.1 hp with hp | hp
   ·simp at hp; subst hp
    refine ⟨hgb, ?_⟩
    cases hH : H gb with
    | none => rfl
    | some o => have := hlt _ _ (hm.pers _ _ hH); omega
   ·exact ⟨hother _ _ (hm.own p hp).1, (hm.own p hp).2⟩
  ·simp only [List.cons_append, List.nil_append, List.map_cons, List.nodup_cons]
   refine ⟨fun hmem => ?_, hm.nodup⟩
   obtain ⟨p, hp, he⟩ := List.mem_map.1 hmem
   have := hlt _ _ (hm.own p hp).1
   omega
theorem append_empty {P : Program} {t ty e : TypeId} {size bytes : Nat} (ha : yn P t e size bytes = true) {va : Option Addr} {x : Value} {news : List (List Value)} {H : Heap} (hs : Sl H size x news)
  (hb : news.length * bytes ≤ 140737488355328) (h63 : news.length < 2 ^ 63) :
  b9 P ((PrimOp.bi .append #[t, t] ty).sem [.slice va 0 0, x]) H [] fun v' H' O' => H' = H ∧ OSl e size v' news O' := by
 unfold yn at ha
 split at ha
 ·rename_i e' i hu hi
  simp only [Bool.and_eq_true, beq_iff_eq, decide_eq_true_eq] at ha
  obtain ⟨⟨⟨⟨rfl, hsz⟩, hby⟩, hz⟩, h0⟩ := ha
  intro w F hm
  simp only [List.nil_append] at hm
  obtain ⟨xa, xcap, rfl, hx1, hx2, hx3⟩ := hs
  by_cases hne : news = []
  ·subst hne
   have : (Builtin.append_ #[t, t] ty #[.slice va 0 0, .slice xa 0 xcap]).run P w = .ok (.slice va 0 0) w := by
    cases va <;> cases xa <;> simp [Builtin.append_, run_underlying hu, sizeOf, typeInfo, hi, Builtin.lenOf, Builtin.firstCells, storeCells, loadCells, loadCellsFrom]
   refine ⟨.slice va 0 0, w, H, [], ?_, ⟨rfl, .inl ⟨⟨va, rfl⟩, rfl, rfl⟩⟩, Heap.le_refl H, by simpa using hm⟩
   simp only [PrimOp.sem, builtin, List.length_nil]
   rw [Sem.run_bind, this]
   rfl
  ·obtain ⟨a, rfl, hA⟩ := hx3 hne
   obtain ⟨hnl, hcells⟩ := wC (H := H) h0 (fun _ => hA) hm
   have hpos : 0 < news.length := List.length_pos_iff.2 hne
   cases hzz : i.zero with
   | none => rw [hzz] at hz; simp at hz
   | some z =>
    rw [hzz] at hz
    simp only [Option.map_some, Option.getD_some, beq_iff_eq] at hz
    have hfl := dO fun r hr => (hnl r hr).1
    have hones : ∀ u ∈ news.flatten, u.oneCell' = true := by
     intro u hu
     obtain ⟨r, hr, hur⟩ := List.mem_flatten.1 hu
     exact my (hnl r hr).2 u hur
    obtain ⟨v', w', hrun, ho, hg⟩ : ∃ v' w', (Builtin.append_ #[t, t] ty #[.slice va 0 0, .slice (some a) news.length xcap]).run P w = .ok v' w' ∧ w'.ownsRow w.heap.size e' size v' news.length news.flatten ∧ w.grownBy w' none := by
     cases va with
     | none =>
      obtain ⟨v', w', h1, h2, h3, _⟩ := run_append_own_at (P := P) w w.heap.size t ty e' i z size bytes hu hi hzz hsz hby hz h0 (.slice none 0 0) 0 [] (World.ownsRow_nil w _ e' size) a news.length xcap news.flatten hfl hcells hones (by simp only [maxLen]; omega) (by simpa using hb) (Nat.le_refl _)
      exact ⟨v', w', h1, by simpa using h2, h3⟩
     | some b =>
      obtain ⟨v', w', h1, h2, h3⟩ := run_append_arg_grows (P := P) w t ty e' i z size bytes hu hi hzz hsz hby hz h0 b 0 0 [] (by simp) (by simp) a news.length xcap news.flatten hfl hcells (by omega) (by simp only [maxLen]; omega) (by simpa using hb)
      exact ⟨v', w', h1, by simpa using h2, h3⟩
    obtain ⟨O', h1, h2⟩ := xg hm hnl ho hg
    refine ⟨v', w', H, O', ?_, ⟨rfl, h1⟩, Heap.le_refl H, h2⟩
    simp only [PrimOp.sem, builtin]
    rw [Sem.run_bind, hrun]
    rfl
 ·cases ha
theorem OSl.ownsRow {e : TypeId} {size : Nat} {v : Value} {rows : List (List Value)} {O1 F : Own} {H : Heap} {w : World} (h : OSl e size v rows O1) (hne : O1 ≠ []) (hm : Models w H (O1 ++ F)) : w.ownsRow 0 e size v rows.length rows.flatten := by
 rcases h with ⟨⟨a, rfl⟩, rfl, rfl⟩ | ⟨r, cs, cap, rfl, rfl, hcl, hlc, hcap, hl, ho, ht⟩
 ·exact absurd rfl hne
 ·refine ⟨dO hl, .inr ⟨r, cap, cs.toArray, rfl, Nat.zero_le _, (hm.own (r, .cells cs.toArray e (0, 0)) (by simp)).1, hlc, by simp only [maxLen]; omega, by simpa using hcl, by simpa using ht⟩⟩
theorem AX {P : Program} {t ty e : TypeId} {size bytes : Nat} (ha : yn P t e size bytes = true) {v x : Value} {rows news : List (List Value)} {O1 : Own} {H : Heap} (h : OSl e size v rows O1) (hs : Sl H size x news)
  (hb : (rows.length + news.length) * bytes ≤ 140737488355328) (h63 : rows.length + news.length < 2 ^ 63) :
  b9 P ((PrimOp.bi .append #[t, t] ty).sem [v, x]) H O1 fun v' H' O' => H' = H ∧ OSl e size v' (rows ++ news) O' := by
 by_cases hne1 : O1 = []
 ·subst hne1
  rcases h with ⟨⟨a, rfl⟩, rfl, _⟩ | ⟨r, cs, cap, _, h, _⟩
  ·exact append_empty ha hs (by simpa using hb) (by simpa using h63)
  ·cases h
 unfold yn at ha
 split at ha
 ·rename_i e' i hu hi
  simp only [Bool.and_eq_true, beq_iff_eq, decide_eq_true_eq] at ha
  obtain ⟨⟨⟨⟨rfl, hsz⟩, hby⟩, hz⟩, h0⟩ := ha
  intro w F hm
  have hnl : ∀ row ∈ news, row.length = size ∧ Ones row := fun row hr => by
   obtain ⟨i, hi⟩ := List.mem_iff_getElem?.1 hr
   obtain ⟨a, cap, rfl, _, _, h4⟩ := hs
   obtain ⟨ad, _, hA⟩ := h4 (by intro e; rw [e] at hr; simp at hr)
   exact (hA i row hi).2
  have hown := h.ownsRow hne1 hm
  obtain ⟨xa, xcap, rfl, hx1, hx2, hx3⟩ := hs
  cases xa with
  | none =>
   have hn : news = [] := by
    by_cases hn : news = []
    ·exact hn
    ·obtain ⟨_, h, _⟩ := hx3 hn; cases h
   subst hn
   refine ⟨v, w, H, O1, ?_, ⟨rfl, by simpa using h⟩, Heap.le_refl H, hm⟩
   have hv : ∃ base n cap, v = .slice base n cap ∧ n ≤ cap := by
    rcases h with ⟨⟨a, rfl⟩, _⟩ | ⟨r, cs, cap, rfl, _, _, hlc, _⟩
    ·exact ⟨a, 0, 0, rfl, Nat.le_refl _⟩
    ·exact ⟨_, _, cap, rfl, hlc⟩
   obtain ⟨base, n, cap, rfl, hnc⟩ := hv
   have : (Builtin.append_ #[t, t] ty #[.slice base n cap, .slice none 0 xcap]).run P w = .ok (.slice base n cap) w := by
    cases base <;> simp [Builtin.append_, run_underlying hu, sizeOf, typeInfo, hi, Builtin.lenOf, Builtin.firstCells, hnc, storeCells]
   simp only [PrimOp.sem, builtin, List.length_nil]
   rw [Sem.run_bind, this]
   rfl
  | some a =>
   cases hzz : i.zero with
   | none => rw [hzz] at hz; simp at hz
   | some z =>
    rw [hzz] at hz
    simp only [Option.map_some, Option.getD_some, beq_iff_eq] at hz
    have hA : news ≠ [] → Arr H size a news := fun hn => by obtain ⟨_, h, hA⟩ := hx3 hn; cases h; exact hA
    have hcells : ∀ j u, news.flatten[j]? = some u → w.cell? (a.add j) = some u := by
     intro j u hj
     have hne : news ≠ [] := by intro e; rw [e] at hj; simp at hj
     have hjl : j < news.length * size := by
      have := (List.getElem?_eq_some_iff.1 hj).1
      rwa [dO fun r hr => (hnl r hr).1] at this
     have hq : j / size < news.length := (Nat.div_lt_iff_lt_mul h0).2 hjl
     obtain ⟨hr1, hr2, _⟩ := hA hne (j / size) news[j / size] (List.getElem?_eq_getElem hq)
     have hfg := dP (fun r hr => (hnl r hr).1) (List.getElem?_eq_getElem hq)
     have hdm : size * (j / size) + j % size = j := Nat.div_add_mod j _
     have hu2 : news[j / size][j % size]? = some u := by
      rw [← hfg, List.getElem?_take, if_pos (Nat.mod_lt _ h0), List.getElem?_drop, Nat.mul_comm, hdm, hj]
     simp only [Heap.read] at hr1
     obtain ⟨k, hk, hc⟩ := j5 hr1 (j % size) u hu2
     have : k = j % size := by
      rw [List.getElem?_range (Nat.mod_lt _ h0)] at hk
      simpa using hk.symm
     subst this
     have := hm.cell? hc
     rwa [oJ, Nat.mul_comm, hdm] at this
    obtain ⟨v', w', hrun, hown', hgr, hnil, hblk⟩ := run_append_own_at (P := P) w 0 t ty e' i z size bytes hu hi hzz hsz hby hz h0 v rows.length rows.flatten hown a news.length xcap news.flatten
     (dO fun r hr => (hnl r hr).1) hcells (by
      intro u hu
      obtain ⟨r, hr, hur⟩ := List.mem_flatten.1 hu
      exact my (hnl r hr).2 u hur) (by simp only [maxLen]; omega) hb (Nat.zero_le _)
    have hrun' : ((PrimOp.bi .append #[t, t] ty).sem [v, .slice (some a) news.length xcap]).run P w = .ok (.value v') w' := by
     simp only [PrimOp.sem, builtin]
     rw [Sem.run_bind, hrun]
     rfl
    have hlenr : ∀ row ∈ rows ++ news, row.length = size ∧ Ones row := by
     intro row hr
     rcases List.mem_append.1 hr with hr | hr
     ·obtain ⟨k, hk⟩ := List.mem_iff_getElem?.1 hr
      exact h.rows_ok hk
     ·exact hnl row hr
    have henv : dA w' = dA w := by simp only [dA, hgr.os, hgr.tape, hgr.output]
    have hlt : ∀ b (o : Obj), w.heap[b]? = some o → b < w.heap.size := fun b o hb => (Array.getElem?_eq_some_iff.1 hb).1
    have hO1 : ∀ p ∈ O1, v.ownBlock = some p.1 := by
     rcases h with ⟨_, _, rfl⟩ | ⟨r, cs, cap, rfl, rfl, _⟩
     ·simp
     ·intro p hp; simp at hp; subst hp; rfl
    have hv1 : v.ownBlock = none → O1 = [] := by
     rcases h with ⟨_, _, rfl⟩ | ⟨r, cs, cap, rfl, rfl, _⟩
     ·exact fun _ => rfl
     ·intro h; simp [Value.ownBlock] at h
    have hv2 : ∀ g, v.ownBlock = some g → g < w.heap.size ∧ H g = none ∧ g ∉ F.map (·.1) := by
     rcases h with ⟨_, _, rfl⟩ | ⟨r, cs, cap, rfl, rfl, _⟩
     ·exact absurd rfl hne1
     ·intro g hg
      simp only [Value.ownBlock, Option.some.injEq] at hg
      subst hg
      have := hm.own (r, .cells cs.toArray e' (0, 0)) (by simp)
      refine ⟨hlt _ _ this.1, this.2, ?_⟩
      have hnd := hm.nodup
      simp only [List.cons_append, List.nil_append, List.map_cons, List.nodup_cons] at hnd
      exact hnd.1
    have hother : ∀ b (o : Obj), w.heap[b]? = some o → v.ownBlock ≠ some b → w'.heap[b]? = some o := fun b o hb hne => by
     rw [hgr.block b (hlt b o hb) (fun e => hne e.symm)]; exact hb
    have hpers : ∀ b (o : Obj), H b = some o → w'.heap[b]? = some o := fun b o hb => hother b o (hm.pers b o hb) fun e => by
     have := (hv2 b e).2.1; rw [hb] at this; cases this
    have hF : ∀ p ∈ F, w'.heap[p.1]? = some p.2 ∧ H p.1 = none := fun p hp => by
     have := hm.own p (List.mem_append_right _ hp)
     exact ⟨hother p.1 p.2 this.1 fun e => (hv2 _ e).2.2 (List.mem_map_of_mem hp), this.2⟩
    have hFnd : (F.map (·.1)).Nodup := by
     have := hm.nodup
     rw [List.map_append] at this
     exact (List.nodup_append.1 this).2.1
    rcases hown'.2 with ⟨rfl, hn0⟩ | ⟨gb, cap', cur, rfl, _, hgb, hnc, hcm, hcs, htk⟩
    ·have hr0 : rows ++ news = [] := List.eq_nil_of_length_eq_zero (by rw [List.length_append]; exact hn0)
     exact ⟨_, w', H, [], hrun', ⟨rfl, .inl ⟨⟨none, rfl⟩, hr0, rfl⟩⟩, Heap.le_refl H, ⟨hpers, fun p hp => hF p (by simpa using hp), by simpa using hFnd, henv.trans hm.env⟩⟩
    ·have hgn : H gb = none ∧ gb ∉ F.map (·.1) := by
      rcases hblk with hb | hb
      ·simp only [Value.ownBlock] at hb
       exact (hv2 gb hb.symm).2
      ·simp only [Value.ownBlock, Option.some.injEq] at hb
       subst hb
       refine ⟨?_, fun hmem => ?_⟩
       ·cases hH : H w.heap.size with
        | none => rfl
        | some o => have := hlt _ _ (hm.pers _ _ hH); omega
       ·obtain ⟨p, hp, he⟩ := List.mem_map.1 hmem
        have := hlt _ _ (hm.own p (List.mem_append_right _ hp)).1
        omega
     refine ⟨_, w', H, [(gb, .cells cur e' (0, 0))], hrun', ⟨rfl, .inr ⟨gb, cur.toList, cap', by rw [List.length_append], by simp, by simpa using hcs, by rw [List.length_append]; exact hnc, by simp only [maxLen] at hcm; omega,
      fun r hr => (hlenr r hr).1, fun r hr => (hlenr r hr).2, by rw [List.length_append, List.flatten_append]; exact htk⟩⟩, Heap.le_refl H, ⟨hpers, fun p hp => ?_, ?_, henv.trans hm.env⟩⟩
     ·rcases List.mem_append.1 hp with hp | hp
      ·simp at hp; subst hp; exact ⟨hgb, hgn.1⟩
      ·exact hF p hp
     ·simp only [List.cons_append, List.nil_append, List.map_cons, List.nodup_cons]
      exact ⟨hgn.2, hFnd⟩
 ·cases ha
theorem jG {P : Program} {t ty e : TypeId} {size bytes : Nat} (ha : yn P t e size bytes = true) {v x : Value} {rows news : List (List Value)} {O O1 O2 : Own} {H : Heap} {frz : List BV} {K : List Value → List (List Value) → Heap → Own → Prop}
  (hO : O.Perm (O1 ++ O2)) (h : OSl e size v rows O1) (hs : ∀ Hf, Heap.le H Hf → (∀ b ∈ frz, Hf b.r = some b.obj.2) → Sl Hf size x news) (hb : (rows.length + news.length) * bytes ≤ 140737488355328) (h63 : rows.length + news.length < 2 ^ 63)
  (hk : ∀ v' O1' H', Heap.le H H' → OSl e size v' (rows ++ news) O1' → K [v'] [] H' (O1' ++ O2)) :
  er (fun H1 O1 R => b9 P ((PrimOp.bi .append #[t, t] ty).sem [v, x]) H1 O1 R) false frz [] .one K H O := by
 intro hc
 have hf := pP hc
 refine ⟨H.insAll frz, O1, O2, _, Ghost.perm hO, AX ha h (hs _ (Heap.le_insAll frz H) hf) hb h63, ?_⟩
 rintro v' H' O' ⟨rfl, ho⟩ hle
 exact ⟨[v'], [], O', rfl, ⟨ho.one, trivial⟩, trivial, rfl, hk v' O' _ (Heap.le_insAll frz H) ho⟩
structure RSl (H : Heap) (O : Own) (size : Nat) (v : Value) (rows : List (List Value)) : Prop where
 one : v.oneCell' = true
 len : af .len [v] = some (.int .i64 rows.length)
 lenB : rows.length < 2 ^ 63
 idx : ∀ (k : IntKind) (i : Nat) (row : List Value), rows[i]? = some row → ∃ a, af (.idx size) [v, .int k i] = some (.pointer (some a)) ∧ Reads H O (.pointer (some a)) size row ∧
  (∀ off m, off + m ≤ size → Reads H O (dq (.pointer (some a)) off) m ((row.drop off).take m)) ∧ row.length = size ∧ Ones row
theorem Sl.rsl {H : Heap} {size : Nat} {v : Value} {rows : List (List Value)} (h : Sl H size v rows) (O : Own) : RSl H O size v rows :=
 ⟨h.one, h.len, h.lenB, fun k i row hr => by
  obtain ⟨a, h1, h2, h3, h4⟩ := h.idx (k := k) hr
  exact ⟨a, h1, .inl h2, fun off m hle => .inl (wP h2 off m hle), h3, h4⟩⟩
theorem OSl.rsl {e : TypeId} {size : Nat} {v : Value} {rows : List (List Value)} {O1 O : Own} (h : OSl e size v rows O1) (hO : ∀ p ∈ O1, p ∈ O) (H : Heap) : RSl H O size v rows :=
 ⟨h.one, h.len, h.lenB, fun k i row hr => by
  obtain ⟨a, h1, _, h2, h3⟩ := h.idx hO H (k := k) hr
  exact ⟨a, h1, h2, h3, h.rows_ok hr⟩⟩
theorem RSl.le {H H' : Heap} {O : Own} {size : Nat} {v : Value} {rows : List (List Value)} (h : RSl H O size v rows) (hl : Heap.le H H') : RSl H' O size v rows := by
 have hr : ∀ {p m vs}, Reads H O p m vs → Reads H' O p m vs := fun h => h.imp (fun h => hl.read h) id
 exact ⟨h.one, h.len, h.lenB, fun k i row hi => by
  obtain ⟨a, h1, h2, h3, h4⟩ := h.idx k i row hi
  exact ⟨a, h1, hr h2, fun off m hle => hr (h3 off m hle), h4⟩⟩
theorem RSl.own {H : Heap} {O O' : Own} {size : Nat} {v : Value} {rows : List (List Value)} (h : RSl H O size v rows) (ho : ∀ p ∈ O, p ∈ O') : RSl H O' size v rows := by
 have hr : ∀ {p m vs}, Reads H O p m vs → Reads H O' p m vs := fun h => h.imp id fun ⟨a, cs, T, h1, h2, h3, h4⟩ => ⟨a, cs, T, h1, h2, ho _ h3, h4⟩
 exact ⟨h.one, h.len, h.lenB, fun k i row hi => by
  obtain ⟨a, h1, h2, h3, h4⟩ := h.idx k i row hi
  exact ⟨a, h1, hr h2, fun off m hle => hr (h3 off m hle), h4⟩⟩
def FunB (P : Program) (fv : Value) (H : Heap) (O : Own) (args : List Value → List Value) (Dom : List Value → Prop) (p : List Value → Bool) : Prop :=
 ∃ f caps, fv = .func (.func f) #[] caps ∧ gU P f ∧ ∀ H', Heap.le H H' → ∀ row, Dom row → RetO P f (args row ++ caps.toList) H' O (.bool (p row))
theorem FunB.one {P : Program} {fv : Value} {H : Heap} {O : Own} {args : List Value → List Value} {Dom : List Value → Prop} {p : List Value → Bool} (h : FunB P fv H O args Dom p) : fv.oneCell' = true := by
 obtain ⟨f, caps, rfl, _⟩ := h; rfl
theorem fW {P : Program} {fv : Value} {args : List Value} {H : Heap} {O : Own} {r : Value} {shp : Shp} {k : List Value → List (List Value) → Tree} {Q : Value → Heap → Own → Prop} {vs : List Value} {f : FuncId} {caps : Array Value}
  (hf : fv = .func (.func f) #[] caps) (hok : gU P f) (h : RetO P f (args ++ caps.toList) H O r) (ho : shp.open r = some vs) (h1 : Ones vs) (hk : ∀ H', Heap.le H H' → (k vs []).den P Q H' O) :
  (Tree.callv false fv args [] [] shp k).den P Q H O := ⟨f, caps, hf, hok, am h ho h1 hk⟩
theorem eI {P : Program} {ok : List Nat} (h : ok.all (Aa P) = true) {f : FuncId} (hf : ok.contains f = true) : gU P f := nK h [] [] [] f hf
theorem tD {P : Program} {op : PrimOp} {args : List Value} {H : Heap} {O : Own} {v : Value} {shp : Shp} {K : List Value → List (List Value) → Heap → Own → Prop} {vs : List Value}
  (h : ∀ w F, Models w H (O ++ F) → (op.sem args).run P w = .ok (.value v) w) (ho : shp.open v = some vs) (h1 : Ones vs) (hk : K vs [] H O) :
  er (fun H1 O1 R => b9 P (op.sem args) H1 O1 R) false [] [] shp K H O := by
 intro _
 refine ⟨H, O, [], fun v' H' O' => v' = v ∧ H' = H ∧ O' = O, ?_, fun w F hm => ⟨v, w, H, O, h w F hm, ⟨rfl, rfl, rfl⟩, Heap.le_refl _, hm⟩, ?_⟩
 ·rw [List.append_nil]; exact Ghost.refl _ _
 ·rintro v' H' O' ⟨rfl, rfl, rfl⟩ _
  exact ⟨vs, [], O', ho, h1, trivial, rfl, by rw [List.append_nil]; exact hk⟩
abbrev rx := List (Int × Value)
def aP (m : rx) (k : Int) : Option Value := (m.find? fun p => k == p.1).map (·.2)
def kY : rx → Int → Value → rx
 | [], k, v => [(k, v)]
 | p :: r, k, v => if k == p.1 then (k, v) :: r else p :: kY r k v
theorem nO (m : rx) (k j : Int) (v : Value) : aP (kY m k v) j = if j = k then some v else aP m j := by
 induction m with
 | nil =>
  by_cases h : j = k
  ·subst h; simp [kY, aP]
  ·have : ¬ k = j := fun e => h e.symm
   simp [kY, aP, h]
 | cons p r ih =>
  simp only [kY]
  by_cases hk : k = p.1
  ·rw [if_pos (by simpa using hk)]
   by_cases h : j = k
   ·subst h; simp [aP]
   ·have h2 : ¬ j = p.1 := fun e => h (e.trans hk.symm)
    simp [aP, h, h2]
  ·rw [if_neg (by simpa using hk)]
   by_cases h : j = k
   ·subst h
    have e : aP (p :: kY r j v) j = aP (kY r j v) j := by simp [aP, hk]
    rw [e, ih, if_pos rfl, if_pos rfl]
   ·by_cases h2 : j = p.1
    ·simp [aP, h2, show ¬ p.1 = k from fun e => hk e.symm]
    ·have e1 : aP (p :: kY r k v) j = aP (kY r k v) j := by simp [aP, h2]
     have e2 : aP (p :: r) j = aP r j := by simp [aP, h2]
     rw [e1, e2, ih]
def OMap (kd : IntKind) (v : Value) (m : rx) (O : Own) : Prop :=
 ∃ r es clock, v = .map (some r) ∧ O = [(r, .map es clock)] ∧ es.toList.map (fun e => (e.key, e.val)) = m.map fun p => (.int kd p.1, p.2)
theorem OMap.one {kd : IntKind} {v : Value} {m : rx} {O : Own} (h : OMap kd v m O) : v.oneCell' = true := by obtain ⟨r, es, c, rfl, _⟩ := h; rfl
theorem jx {kd k' : IntKind} {x : Int} : ∀ {es : List MapEntry} {m : rx} {i : Nat}, es.map (fun e => (e.key, e.val)) = m.map (fun p => ((.int kd p.1 : Value), p.2)) →
  (Instr.findNow (.int k') (.int kd x) es i = some none ∧ aP m x = none ∧ m.findIdx? (fun p => x == p.1) = none) ∨
  ∃ j v, Instr.findNow (.int k') (.int kd x) es i = some (some (i + j, v)) ∧ aP m x = some v ∧ m.findIdx? (fun p => x == p.1) = some j
 | [], [], i, _ => .inl ⟨rfl, rfl, rfl⟩
 | [], _ :: _, _, h => by simp at h
 | _ :: _, [], _, h => by simp at h
 | e :: es, p :: m, i, h => by
  simp only [List.map_cons, List.cons.injEq, Prod.mk.injEq] at h
  obtain ⟨⟨h1, h2⟩, h3⟩ := h
  have hs : Instr.sameNow (.int k') (.int kd x) e.key = some (x == p.1) := by rw [h1]; simp [Instr.sameNow]
  simp only [Instr.findNow, hs]
  by_cases hx : x = p.1
  ·right
   refine ⟨0, p.2, ?_, ?_, ?_⟩
   ·simp [hx, h2]
   ·simp [aP, hx]
   ·simp [List.findIdx?_cons, hx]
  ·have hb : (x == p.1) = false := by simpa using hx
   rw [hb]
   rcases jx (i := i + 1) h3 with ⟨a, b, c⟩ | ⟨j, v, a, b, c⟩
   ·left
    refine ⟨by simpa using a, ?_, ?_⟩
    ·simp only [aP, List.find?_cons, hb]; exact b
    ·simp [List.findIdx?_cons, hb, c]
   ·right
    refine ⟨j + 1, v, ?_, ?_, ?_⟩
    ·simp only; rw [a]; congr 3; omega
    ·simp only [aP, List.find?_cons, hb]; exact b
    ·simp [List.findIdx?_cons, hb, c]
theorem lQ {P : Program} {kt : TypeId} {k : IntKind} (hk : P.underlying kt = some (.int k)) (em : Bool) (v : Value) (w : World) : (Instr.checkKey em 10000 kt v).run P w = .ok () w := by
 show (Instr.checkKey em (9999 + 1) kt v).run P w = _
 unfold Instr.checkKey
 rw [Sem.run_bind, al hk]
 rfl
theorem fx {P : Program} {t kt et : TypeId} {k kd : IntKind} (ht : P.underlying t = some (.map kt et)) (hk : P.underlying kt = some (.int k)) {z : Value} (hz : ∀ w, (zeroValue et).run P w = .ok z w)
  {v : Value} {m : rx} {O1 O : Own} (h : OMap kd v m O1) (hO : ∀ p ∈ O1, p ∈ O) {H : Heap} {w : World} {F : Own} (hm : Models w H (O ++ F)) (x : Int) (ok : Bool) :
  ((PrimOp.lookup t ok).sem [v, .int kd x]).run P w = .ok (.value (if ok then .tuple #[(aP m x).getD z, .bool (aP m x).isSome] else (aP m x).getD z)) w := by
 obtain ⟨r, es, clock, rfl, rfl, he⟩ := h
 have hrow := (hm.own (r, .map es clock) (List.mem_append_left _ (hO _ (by simp)))).1
 have hg : (getObj r).run P w = .ok (.map es clock) w := by simp [getObj, Sem.run, hrow]
 simp only [PrimOp.sem, Instr.lookup, Sem.run_bind, al ht, Result.andThen_ok, hg, Sem.run_pure, lQ hk, Instr.findKey, al hk]
 rcases jx (k' := k) (x := x) (i := 0) he with ⟨a, b, _⟩ | ⟨j, u, a, b, _⟩
 ·rw [a, b]
  simp only [Sem.run_pure, Result.andThen_ok, hz, Option.getD_none, Option.isSome_none, Sem.run_bind]
 ·rw [a, b]
  simp only [Sem.run_pure, Result.andThen_ok, Option.getD_some, Option.isSome_some, Sem.run_bind]
theorem rE {m : rx} {k : Int} {v : Value} (h : m.findIdx? (fun p => k == p.1) = none) : kY m k v = m ++ [(k, v)] := by
 induction m with
 | nil => rfl
 | cons p r ih =>
  simp only [List.findIdx?_cons] at h
  split at h
  ·cases h
  ·rename_i hb
   simp only [Option.map_eq_none_iff] at h
   simp only [kY, hb, Bool.false_eq_true, if_false, ih h, List.cons_append]
theorem wh {m : rx} {k : Int} {v : Value} {j : Nat} (h : m.findIdx? (fun p => k == p.1) = some j) : kY m k v = m.set j (k, v) ∧ ∃ u, m[j]? = some (k, u) := by
 induction m generalizing j with
 | nil => simp at h
 | cons p r ih =>
  simp only [List.findIdx?_cons] at h
  split at h
  ·rename_i hb
   simp only [Option.some.injEq] at h; subst h
   have : k = p.1 := by simpa using hb
   exact ⟨by simp [kY, hb], p.2, by simp [this]⟩
  ·rename_i hb
   simp only [Option.map_eq_some_iff] at h
   obtain ⟨i, hi, rfl⟩ := h
   obtain ⟨h1, u, h2⟩ := ih hi
   refine ⟨?_, u, by simpa using h2⟩
   simp only [kY, hb, Bool.false_eq_true, if_false, h1, List.set_cons_succ]
theorem jM {P : Program} {t kt et : TypeId} {k kd : IntKind} (ht : P.underlying t = some (.map kt et)) (hk : P.underlying kt = some (.int k)) {v : Value} {m : rx} {O1 : Own} (h : OMap kd v m O1) (H : Heap) (x : Int) (u : Value) :
  b9 P ((PrimOp.mapUpdate t).sem [v, .int kd x, u]) H O1 fun _ H' O' => H' = H ∧ OMap kd v (kY m x u) O' := by
 intro w F hm
 obtain ⟨r, es, clock, rfl, rfl, he⟩ := h
 have hrow := (hm.own (r, .map es clock) (by simp)).1
 have hlt : r < w.heap.size := (Array.getElem?_eq_some_iff.1 hrow).1
 have hg : (getObj r).run P w = .ok (.map es clock) w := by simp [getObj, Sem.run, hrow]
 have hset : ∀ o, (setObj r o).run P w = .ok () { w with heap := w.heap.setIfInBounds r o } := fun o => by
  simp only [setObj, Sem.run, hrow]
 have key : ∀ es' clock' m', es'.toList.map (fun e => (e.key, e.val)) = m'.map (fun p => ((.int kd p.1 : Value), p.2)) → Models { w with heap := w.heap.setIfInBounds r (.map es' clock') } H ([(r, .map es' clock')] ++ F) ∧ OMap kd (.map (some r)) m' [(r, .map es' clock')] := by
  intro es' clock' m' hm'
  refine ⟨?_, r, es', clock', rfl, rfl, hm'⟩
  have hm0 : Models w H ((r, .map es clock) :: F) := by simpa using hm
  refine hm0.update (fun b hb => ?_) ?_ rfl
  ·simp [Ne.symm hb]
  ·simp [hlt]
 simp only [PrimOp.sem, Instr.mapUpdate, Sem.run_bind, al ht, Result.andThen_ok, hg, lQ hk, Instr.findKey, al hk]
 rcases jx (k' := k) (x := x) (i := 0) he with ⟨a, _, c⟩ | ⟨j, u', a, _, c⟩
 ·rw [a]
  simp only [Sem.run_pure, Result.andThen_ok, hset, Sem.run_bind]
  obtain ⟨k1, k2⟩ := key (es.push { key := .int kd x, val := u, born := clock }) (clock + 1) (kY m x u) (by rw [rE c]; simp [he])
  exact ⟨_, _, H, _, rfl, ⟨rfl, k2⟩, Heap.le_refl H, k1⟩
 ·rw [a]
  obtain ⟨e1, u0, e2⟩ := wh (v := u) c
  have hj : (es.toList.map fun e => (e.key, e.val))[j]? = some (.int kd x, u0) := by rw [he, List.getElem?_map, e2]; rfl
  rw [List.getElem?_map, Option.map_eq_some_iff] at hj
  obtain ⟨ent, hent, hk2⟩ := hj
  simp only [Prod.mk.injEq] at hk2
  have hent' : es[j]? = some ent := by simpa using hent
  have hjlt : j < es.size := (Array.getElem?_eq_some_iff.1 hent').1
  have hstay : (Instr.keyThatStays (.int kd x) (.int kd x)).run P w = .ok (.int kd x) w := by
   have : Instr.sameBits 10000 (.int kd x) (.int kd x) = true := by unfold Instr.sameBits; simp
   simp [Instr.keyThatStays, this]
  have hes : (es[0 + j]?).map (·.key) = some (.int kd x) := by rw [Nat.zero_add, hent', Option.map_some, hk2.1]
  simp only [Sem.run_pure, Result.andThen_ok, Sem.run_bind, hes, Option.getD_some, hstay, hset]
  obtain ⟨k1, k2⟩ := key (es.modify (0 + j) fun e => { e with key := .int kd x, val := u }) clock (kY m x u) (by
   rw [e1, List.map_set, ← he, Nat.zero_add]
   refine List.ext_getElem? fun i => ?_
   simp only [Array.toList_modify, List.getElem?_map, List.getElem?_modify, List.getElem?_set, List.length_map]
   by_cases hij : j = i
   ·subst hij
    simp [hent', hjlt]
   ·simp [hij])
  exact ⟨_, _, H, _, rfl, ⟨rfl, k2⟩, Heap.le_refl H, k1⟩
theorem tN {P : Program} (t : TypeId) (kd : IntKind) (H : Heap) : b9 P ((PrimOp.makeMap t false).sem []) H [] fun v H' O' => H' = H ∧ OMap kd v [] O' := by
 intro w F hm
 refine ⟨.map (some w.heap.size), { w with heap := w.heap.push (.map #[] 0) }, H, [(w.heap.size, .map #[] 0)], ?_, ⟨rfl, _, _, _, rfl, rfl, rfl⟩, Heap.le_refl H, ?_⟩
 ·simp only [PrimOp.sem, Instr.makeMap, Sem.run_bind, Sem.run_pure, Result.andThen_ok, run_newObj]
 ·simpa using Models.push (by simpa using hm) (.map #[] 0)
theorem jF {P : Program} {t kt et : TypeId} {k kd : IntKind} (ht : P.underlying t = some (.map kt et)) (hk : P.underlying kt = some (.int k)) {z : Value} (hz : ∀ w, (zeroValue et).run P w = .ok z w)
  {v : Value} {m : rx} {O1 O : Own} (h : OMap kd v m O1) (hO : ∀ p ∈ O1, p ∈ O) {H : Heap} (x : Int) {K : List Value → List (List Value) → Heap → Own → Prop}
  (h1 : ((aP m x).getD z).oneCell' = true) (hK : K [(aP m x).getD z, .bool (aP m x).isSome] [] H O) :
  er (fun H1 O1 R => b9 P ((PrimOp.lookup t true).sem [v, .int kd x]) H1 O1 R) false [] [] (.tup [none, none]) K H O :=
 tD (fun w F hm => fx ht hk hz h hO hm x true) rfl ⟨h1, rfl, trivial⟩ hK
theorem ir {P : Program} {t kt et : TypeId} {k kd : IntKind} (ht : P.underlying t = some (.map kt et)) (hk : P.underlying kt = some (.int k)) {z : Value} (hz : ∀ w, (zeroValue et).run P w = .ok z w)
  {v : Value} {m : rx} {O1 O : Own} (h : OMap kd v m O1) (hO : ∀ p ∈ O1, p ∈ O) {H : Heap} (x : Int) {K : List Value → List (List Value) → Heap → Own → Prop}
  (h1 : ((aP m x).getD z).oneCell' = true) (hK : K [(aP m x).getD z] [] H O) :
  er (fun H1 O1 R => b9 P ((PrimOp.lookup t false).sem [v, .int kd x]) H1 O1 R) false [] [] .one K H O :=
 tD (fun w F hm => fx ht hk hz h hO hm x false) rfl ⟨h1, trivial⟩ hK
theorem eL {P : Program} {t kt et : TypeId} {k kd : IntKind} (ht : P.underlying t = some (.map kt et)) (hk : P.underlying kt = some (.int k)) {v : Value} {m : rx} {O O1 O2 : Own} (h : OMap kd v m O1) (hO : O.Perm (O1 ++ O2)) {H : Heap} (x : Int) (u : Value)
  {K : List Value → List (List Value) → Heap → Own → Prop} (hK : ∀ r O1', OMap kd v (kY m x u) O1' → r.oneCell' = true → K [r] [] H (O1' ++ O2)) :
  er (fun H1 O1 R => b9 P ((PrimOp.mapUpdate t).sem [v, .int kd x, u]) H1 O1 R) false [] [] .one K H O := by
 intro _
 refine ⟨H, O1, O2, fun r H' O' => r = .bool false ∧ H' = H ∧ OMap kd v (kY m x u) O', Ghost.perm hO, fun w F hm => ?_, ?_⟩
 ·obtain ⟨r, w', H', O', h1, ⟨rfl, h3⟩, h4, h5⟩ := jM ht hk h H x u w F hm
  refine ⟨r, w', H', O', h1, ⟨?_, rfl, h3⟩, h4, h5⟩
  simp only [PrimOp.sem, Sem.run_bind] at h1
  cases hr : (Instr.mapUpdate t v (.int kd x) u).run P w with
  | ok a w1 => rw [hr] at h1; simp only [Result.andThen_ok, Sem.run_pure, Result.ok.injEq, Next.value.injEq] at h1; exact h1.1.symm
  | halt a w1 => rw [hr] at h1; simp at h1
 ·rintro r H' O' ⟨rfl, rfl, ho⟩ _
  exact ⟨[.bool false], [], O', rfl, ⟨rfl, trivial⟩, trivial, rfl, hK _ O' ho rfl⟩
theorem ov {P : Program} {t : TypeId} (kd : IntKind) {H : Heap} {O : Own} {K : List Value → List (List Value) → Heap → Own → Prop} (hK : ∀ v O1, OMap kd v [] O1 → K [v] [] H (O1 ++ O)) :
  er (fun H1 O1 R => b9 P ((PrimOp.makeMap t false).sem []) H1 O1 R) false [] [] .one K H O := by
 intro _
 refine ⟨H, [], O, _, Ghost.refl _ _, tN t kd H, ?_⟩
 rintro v H' O' ⟨rfl, ho⟩ _
 exact ⟨[v], [], O', rfl, ⟨ho.one, trivial⟩, trivial, rfl, hK v O' ho⟩
abbrev iv (n : Int) : Value := .int .i64 n
abbrev pt (r n : Nat) : Value := .pointer (some ⟨r, n, none⟩)
abbrev gd (c : List (List Value)) (i : Nat) : List Value := c.getD i []
abbrev ag (l : List Value) : Value := .agg l.toArray
abbrev kN (a : Nat) (t : Tree) : Tree := .chk (.eqN a a) t
abbrev kV (a : Value) (t : Tree) : Tree := .chk (.eqV a a) t
abbrev kW (a : Value) (r n : Nat) (t : Tree) : Tree := .chk (.eqV a (.pointer (some ⟨r, n, none⟩))) t
abbrev kP (a : Value) (t : Tree) : Tree := .chk (.ptr [] a) t
abbrev pE (a b : Value) (k : Value → Tree) : Tree := .pure [] (.bin .eql .int) [a, b] k
abbrev pN (a b : Value) (k : Value → Tree) : Tree := .pure [] (.bin .neq .int) [a, b] k
abbrev pL (a b : Value) (k : Value → Tree) : Tree := .pure [] (.bin .lss .int) [a, b] k
abbrev pM (a b : Value) (k : Value → Tree) : Tree := .pure [] (.bin .leq .int) [a, b] k
abbrev pG (a b : Value) (k : Value → Tree) : Tree := .pure [] (.bin .gtr .int) [a, b] k
abbrev pH (a b : Value) (k : Value → Tree) : Tree := .pure [] (.bin .geq .int) [a, b] k
abbrev pA (a b : Value) (k : Value → Tree) : Tree := .pure [] (.bin .add .int) [a, b] k
abbrev pS (a b : Value) (k : Value → Tree) : Tree := .pure [] (.bin .sub .int) [a, b] k
abbrev pZ (a : Value) (k : Value → Tree) : Tree := .pure [] .len [a] k
abbrev pO (a : Value) (k : Value → Tree) : Tree := .pure [] .not [a] k
abbrev pK (a b c : Value) (k : Value → Tree) : Tree := .pure [] .pick [a, b, c] k
abbrev pI (n : Nat) (a b : Value) (k : Value → Tree) : Tree := .pure [] (.idx n) [a, b] k
abbrev c1 (f : FuncId) (args : List Value) (k : List Value → Tree) : Tree := .call false f args [] [] .one fun l _ => k l
abbrev cS (f : FuncId) (args : List Value) (s : Shp) (k : List Value → Tree) : Tree := .call false f args [] [] s fun l _ => k l
abbrev Es (l : List (List Value)) : List (List Value × List Value) := l.map E
abbrev G4 (v : List Value) (a : Nat) : List Value := [g v a, g v (a + 1), g v (a + 2), g v (a + 3)]
abbrev G5 (v : List Value) (a : Nat) : List Value := [g v a, g v (a + 1), g v (a + 2), g v (a + 3), g v (a + 4)]
abbrev G6 (v : List Value) (a : Nat) : List Value := [g v a, g v (a + 1), g v (a + 2), g v (a + 3), g v (a + 4), g v (a + 5)]
abbrev G11 (v : List Value) (a : Nat) : List Value := [g v a, g v (a + 1), g v (a + 2), g v (a + 3), g v (a + 4), g v (a + 5), g v (a + 6), g v (a + 7), g v (a + 8), g v (a + 9), g v (a + 10)]
abbrev G12 (v : List Value) (a : Nat) : List Value := [g v a, g v (a + 1), g v (a + 2), g v (a + 3), g v (a + 4), g v (a + 5), g v (a + 6), g v (a + 7), g v (a + 8), g v (a + 9), g v (a + 10), g v (a + 11)]
abbrev G14 (v : List Value) (a : Nat) : List Value := [g v a, g v (a + 1), g v (a + 2), g v (a + 3), g v (a + 4), g v (a + 5), g v (a + 6), g v (a + 7), g v (a + 8), g v (a + 9), g v (a + 10), g v (a + 11), g v (a + 12), g v (a + 13)]
abbrev G38 (v : List Value) (a : Nat) : List Value := [g v a, g v (a + 1), g v (a + 2), g v (a + 3), g v (a + 4), g v (a + 5), g v (a + 6), g v (a + 7), g v (a + 8), g v (a + 9), g v (a + 10), g v (a + 11), g v (a + 12), g v (a + 13), g v (a + 14), g v (a + 15), g v (a + 16), g v (a + 17), g v (a + 18), g v (a + 19), g v (a + 20), g v (a + 21), g v (a + 22), g v (a + 23), g v (a + 24), g v (a + 25), g v (a + 26), g v (a + 27), g v (a + 28), g v (a + 29), g v (a + 30), g v (a + 31), g v (a + 32), g v (a + 33), g v (a + 34), g v (a + 35), g v (a + 36), g v (a + 37)]
def nH (o : Oper) : Bool := match o.op with | .defer _ => false | _ => true
theorem sk {o : Oper} (h : nH o = true) : ∀ c, o.op ≠ .defer c := by
 intro c e
 unfold nH at h
 rw [e] at h
 cases h
def Fr (ro : Option Nat) : Fence := { Fence.wide with round := ro }
def shift (d : List Deferred) (a : Act) : Act := { a with defers := a.defers ++ d }
theorem fG (d : List Deferred) (a : Act) (t : Option Tmp) (v : Value) : (shift d a).put t v = shift d (a.put t v) := by cases t <;> rfl
theorem po (d : List Deferred) (a : Act) : (shift d a).eval = a.eval := rfl
section
variable {P : Program} {Q Q' : Exit → Act → World → Prop} {ro : Option Nat} {n : Nat} {d : List Deferred}
theorem kp {f : FuncId} {args : Array Value} {w : World} {R : Ending → World → Prop} (h : Calls P f args w R) : CallsIn (Fr ro) n P f args w R := by
 have h2 : CallsIn Fence.wide n P f args w R := callsIn_wide.2 h
 exact h2
theorem rU {row : String} {args : Array Value} {w : World} {R : Value → World → Prop} (h : Rows P row args w R) : RowsIn (Fr ro) n P row args w R :=
 fun c cs _ => let ⟨v, w', r, s⟩ := h c cs; ⟨v, w', r, stepsIn_wide.2 s⟩
theorem Gn {o : Oper} {a : Act} {w : World} {next next' : Act → World → Prop} (hnd : nH o = true) (hL : ¬ LetsOut Q) (hn : ∀ a w, next a w → next' (shift d a) w) (hQ : ∀ e a w, Q e a w → Q' e (shift d a) w) (h : o.wp P a w next Q) : o.wpIn (Fr ro) n P (shift d a) w next' Q' := by
 refine ⟨fun _ _ => trivial, ?_⟩
 rw [Oper.semAt_eq _ _ _ (sk hnd), po]
 unfold Oper.wp at h
 have hd : (Fr ro).depth.isSome = true → 1 ≤ n := fun h => by cases h
 generalize hr : (execOp a.eval o).run P w = r at h
 cases r with
 | ok x w' =>
  cases x with
  | value v => rw [Oper.uponIn_value, fG]; exact hn _ _ h
  | skip => rw [Oper.uponIn_skip, fG]; exact hn _ _ h
  | defer dd =>
   rw [Oper.uponIn_defer]
   have e : ({ shift d a with defers := dd :: (shift d a).defers } : Act).put o.dst undef = shift d (({ a with defers := dd :: a.defers } : Act).put o.dst undef) := fG d { a with defers := dd :: a.defers } o.dst undef
   rw [e]
   exact hn _ _ h
  | enter f args =>
   rw [Oper.uponIn_enter]
   refine ⟨hd, (kp h).mono ?_⟩
   intro e w' he
   cases e with
   | returned v => simp only [] at he ⊢; rw [fG]; exact hn _ _ he
   | panicked c => exact hQ _ _ _ he
   | outgrown => exact absurd he hL
  | row r args =>
   rw [Oper.uponIn_row]
   exact ⟨hd, (rU h).mono fun v w' hv => by rw [fG]; exact hn _ _ hv⟩
  | _ => exact h.elim
 | halt o w' =>
  cases o with
  | panic v => exact hQ _ _ _ h
  | _ => exact h.elim
def gi (ops : Array Oper) : Bool := ops.toList.all nH
theorem se {ops : Array Oper} (h : gi ops = true) {i : Nat} {o : Oper} (ho : ops[i]? = some o) : nH o = true := by
 unfold gi at h
 rw [List.all_eq_true] at h
 exact h o (by rw [Array.mem_toList_iff]; exact Array.mem_of_getElem? ho)
theorem wc {ops : Array Oper} (hq : gi ops = true) (hL : ¬ LetsOut Q) (hQ : ∀ e a w, Q e a w → Q' e (shift d a) w) {i : Nat} {K K' : Act → World → Prop} (hK : ∀ a w, K a w → K' (shift d a) w) {a : Act} {w : World} (h : wpOp P ops Q i K a w) : wpOpIn (Fr ro) n P ops Q' i K' (shift d a) w := by
 unfold wpOp at h
 unfold wpOpIn
 split
 ·rename_i ho; rw [ho] at h; exact hK _ _ h
 ·rename_i o ho
  rw [ho] at h
  simp only [] at h
  split
  ·rename_i hw
   have hw : Region.wanted o (yielded ops a.tmps) = true := hw
   rw [if_pos hw] at h
   rcases h with h | ⟨_, h⟩
   ·exact Gn (se hq ho) hL hK hQ h
   ·exact absurd h hL
  ·rename_i hw
   have hw : ¬ Region.wanted o (yielded ops a.tmps) = true := hw
   rw [if_neg hw] at h
   rw [fG]
   exact ⟨fun _ _ => trivial, hK _ _ h⟩
theorem um {ops : Array Oper} (hq : gi ops = true) (hL : ¬ LetsOut Q) (hQ : ∀ e a w, Q e a w → Q' e (shift d a) w) : ∀ (is : List Nat) {a : Act} {w : World}, wpOps P ops Q is a w → wpOpsIn (Fr ro) n P ops Q' is (shift d a) w
 | [], _, _, h => hQ _ _ _ h
 | i :: r, a, w, h => by
  rw [wpOps_cons] at h
  rw [wpOpsIn_cons]
  exact wc hq hL hQ (fun a w h => um hq hL hQ r h) h
theorem un {ops : Array Oper} (hq : gi ops = true) (hL : ¬ LetsOut Q) (hQ : ∀ e a w, Q e a w → Q' e (shift d a) w) {md : Region.Mode} : ∀ (fuel : Nat) {L : Array Bool} {a : Act} {w : World}, wpAny P md ops Q fuel L a w → wpAnyIn (Fr ro) n P md ops Q' fuel L (shift d a) w
 | 0, _, _, _, h => ⟨h.1, hQ _ _ _ h.2⟩
 | fuel + 1, L, a, w, h => ⟨fun e => hQ _ _ _ (h.1 e), fun i hi => wc hq hL hQ (fun a w h => un hq hL hQ fuel h) (h.2 i hi)⟩
end
def o5 : Code → Bool
 | .skip => true
 | .label _ => true
 | .exit _ => true
 | .ret => true
 | .region _ ops _ => gi ops
 | .seq x y => o5 x && o5 y
 | .cond _ x y => o5 x && o5 y
 | .block _ b => o5 b
 | _ => false
theorem o4 {P : Program} (hm : P.follows .mixedOrders = true) {okf : FuncId → Bool} (hokf : ∀ f, okf f = true → gU P f) {rules : FuncId → Option (List Nat)} {id : Nat} {ops : Array Oper} {draw : Bool} {s : SS} {kk : SS → Tree}
  {QT : Value → Heap → Own → Prop} {F : Own} {H : Heap} {O : Own} {a : Act} {w : World} {Q : Exit → Act → World → Prop}
  {ro : Option Nat} {n : Nat} {d : List Deferred} {Q' : Exit → Act → World → Prop} (hq : gi ops = true) (hL : ¬ LetsOut Q) (hQ : ∀ e a w, Q e a w → Q' e (shift d a) w) (h : (fK P okf rules ops draw s kk).den P QT H O) (hC : Conc F s H O a w)
  (hK : ∀ s' H' O' a' w', Conc F s' H' O' a' w' → Heap.le H H' → (kk s').den P QT H' O' → Q .normal a' w') : (Code.region id ops draw).wpIn (Fr ro) n P Q' (shift d a) w := by
 unfold fK at h
 simp only [] at h
 have hops : ∀ e ∈ aw 0 ops.toList, ops[e.1]? = some e.2 := by
  intro e he
  have := (fe he).2
  simpa using this
 cases draw with
 | true =>
  simp only [if_true] at h
  split at h
  ·rename_i ht
   have hR := s9 (c := ⟨P, okf, rules, ops, cq (b6 ops.size 0 (aw 0 ops.toList)) [], cw (aw 0 ops.toList), s.next⟩) h
   obtain ⟨t1, t2, t3, t4⟩ := jQ ht
   have hop : ∀ i o, (i, o) ∈ b6 ops.size 0 (aw 0 ops.toList) → ops[i]? = some o := fun i o hi => hops (i, o) (gh hi)
   refine wpIn_region_any hm (un hq hL hQ _ ?_)
   refine s6 (c := ⟨P, okf, rules, ops, cq (b6 ops.size 0 (aw 0 ops.toList)) [], cw (aw 0 ops.toList), s.next⟩) ?_ hokf (b6 ops.size 0 (aw 0 ops.toList)).length rfl ?_ ?_ (hC.drew _) hR ?_
   ·intro i j o ho hi
    have hlt : i < ops.size := (Array.getElem?_eq_some_iff.1 hi).1
    obtain ⟨o', ho'⟩ := ((t1 i).1 hlt).resolve_left (by simp)
    have : o' = o := by have := hop i o' ho'; simp only [] at hi; rw [hi] at this; exact (Option.some.inj this).symm
    subst this
    exact (eX (tab := []) t2 (fun _ _ h => by simp [t3 _ _ h]) t4).2 i o' j ho' ho
   ·have := hU ops.size _ t2 (fun i hi => by
     obtain ⟨e, he, rfl⟩ := List.mem_map.1 hi
     exact (t1 e.1).2 (.inr ⟨e.2, he⟩))
    simpa using this
   ·refine ⟨by simp, fun i => ?_, hop, t2, t4.mono (by simp), fun i j hi => ?_⟩
    ·rw [show ((Array.replicate ops.size false).getD i true = false) ↔ i < ops.size by
      by_cases hlt : i < ops.size <;> simp [Array.getD, hlt]]
     rw [t1]; simp
    ·exfalso
     by_cases hlt : i < ops.size <;> simp [Array.getD, hlt] at hi
   ·intro s' H' O' a' w' h1 h2 h3
    exact hK _ H' O' a' w' (h1.next _) h2 h3
  ·exact h.elim
 | false =>
  simp only [Bool.false_eq_true, if_false] at h
  have hR := s9 (c := ⟨P, okf, rules, ops, [], cw (aw 0 ops.toList), s.next⟩) h
  refine wpIn_region (um hq hL hQ _ ?_)
  have := jp (c := ⟨P, okf, rules, ops, [], cw (aw 0 ops.toList), s.next⟩) (Q := Q) hokf (aw 0 ops.toList) hops hC hR (fun s' H' O' a' w' h1 h2 h3 => hK _ H' O' a' w' (h1.next _) h2 h3)
  rw [ff] at this
  rw [List.range_eq_range']
  simpa using this
theorem lP {P : Program} {QT : Value → Heap → Own → Prop} {F : Own} {c : Operand} {x y : Code} {s : SS} {tx ty : Tree} {H : Heap} {O : Own} {a : Act} {w : World} {Q : Exit → Act → World → Prop} {G : Fence} {n : Nat} {d : List Deferred}
  (h : (match dh s [] c with
   | some (.k (.bool true), _) => tx
   | some (.k (.bool false), _) => ty
   | some (v, _) => .br v.den tx ty
   | none => .stuck 904).den P QT H O) (hC : Conc F s H O a w)
  (hx : tx.den P QT H O → x.wpIn G n P Q (shift d a) w) (hy : ty.den P QT H O → y.wpIn G n P Q (shift d a) w) : (Code.cond c x y).wpIn G n P Q (shift d a) w := by
 have hden : ∀ v cs, dh s [] c = some (v, cs) → a.eval c = v.den := fun v cs he => by
  have := jY he; subst this
  exact ay hC he trivial trivial
 split at h
 ·rename_i cs he; exact wpIn_cond_true (hden _ _ he) (hx h)
 ·rename_i cs he; exact wpIn_cond_false (hden _ _ he) (hy h)
 ·rename_i v cs _ _ he
  obtain ⟨b, hb, h1, h2⟩ := h
  refine wpIn_cond_split (t := b) (by rw [po, hden _ _ he]; exact hb) (fun e => hx (h1 e)) (fun e => hy (h2 e))
 ·exact h.elim
theorem fF {P : Program} (hm : P.follows .mixedOrders = true) {opts : vZ} (hokf : ∀ f, opts.okf f = true → gU P f) {QT : Value → Heap → Own → Prop} {F : Own} {ro : Option Nat} {n : Nat} {d : List Deferred} : ∀ (c : Code) {s : SS} {k : SS → Tree}
  {X : Nat → Option (SS → Tree)} {R : SS → Tree} {H : Heap} {O : Own} {a : Act} {w : World} {Q : Exit → Act → World → Prop},
  o5 c = true → (∀ a w, ¬ Q .outgrown a w) → (sx P opts c s k X R).den P QT H O → Conc F s H O a w → Kont P QT F k H (fun a w => Q .normal (shift d a) w) → (∀ id kx, X id = some kx → Kont P QT F kx H (fun a w => Q (.exit id) (shift d a) w)) → Kont P QT F R H (fun a w => Q .ret (shift d a) w) → c.wpIn (Fr ro) n P Q (shift d a) w := by
 intro c
 induction c with
 | skip => intro s k X R H O a w Q hq hL h hC hk _ _; exact wpIn_skip (hk.go _ _ _ _ _ hC (Heap.le_refl H) h)
 | label l => intro s k X R H O a w Q hq hL h hC hk _ _; exact wpIn_label (hk.go _ _ _ _ _ hC (Heap.le_refl H) h)
 | region id ops draw =>
  intro s k X R H O a w Q hq hL h hC hk _ _
  exact o4 (Q := fun e a w => Q e (shift d a) w) hm hokf hq (fun ⟨a, w, h⟩ => hL _ w h) (fun _ _ _ h => h) h hC hk.go
 | seq x y ihx ihy =>
  intro s k X R H O a w Q hq hL h hC hk hX hR
  obtain ⟨hqx, hqy⟩ := Bool.and_eq_true_iff.1 hq
  refine wpIn_seq (ihx hqx (fun a w => hL a w) h hC ⟨fun s' H' O' a' w' hC' hle hd => ?_⟩ (fun id kx he => hX id kx he) hR)
  exact ihy hqy hL hd hC' (hk.le hle) (fun id kx he => (hX id kx he).le hle) (hR.le hle)
 | cond c x y ihx ihy =>
  intro s k X R H O a w Q hq hL h hC hk hX hR
  obtain ⟨hqx, hqy⟩ := Bool.and_eq_true_iff.1 hq
  simp only [sx] at h
  split at h
  ·exact lP h hC (fun hd => ihx hqx hL hd hC hk hX hR) (fun hd => ihy hqy hL hd hC hk hX hR)
  ·rename_i carry keep boxes hcut
   obtain ⟨R0, hbody, hrest⟩ := h
   have hC1 := hC.next (s.next + 1)
   have hk1 : Kont P QT F (fun s' => ep s.next (fun vs' H'' O'' => Cons H'' O'' → ∃ H3 O3, Ghost H'' O'' H3 O3 ∧ R0 vs' H3 O3) carry keep (bU s boxes carry.length) s s') H (fun a w => Q .normal (shift d a) w) := by
    refine ⟨fun s' H' O' a' w' hC' hle hd => ?_⟩
    have hb := eA (h := { s with next := s.next + 1 }) hd hC' hC1.ok (fun n b cells i hmem => bK hmem)
    obtain ⟨hb0, hC2, hones, _⟩ := hb
    obtain ⟨H3, O3, hg, hr⟩ := hb0 hC2.cons
    obtain ⟨hC3, hle3⟩ := hC2.ghost hg
    exact hk.go _ _ _ _ _ hC3 (Heap.le_trans hle hle3) (hrest _ _ _ hones (Heap.le_trans hle hle3) hr)
   exact lP (s := { s with next := s.next + 1 }) hbody hC1 (fun hd => ihx hqx hL hd hC1 hk1 hX hR) (fun hd => ihy hqy hL hd hC1 hk1 hX hR)
 | block id b ih =>
  intro s k X R H O a w Q hq hL h hC hk hX hR
  refine wpIn_block (ih hq (fun a w => hL a w) h hC ⟨fun s' H' O' a' w' hC' hle hd => hk.go _ _ _ _ _ hC' hle hd⟩ (fun j kx he => ?_) ⟨fun s' H' O' a' w' hC' hle hd => hR.go _ _ _ _ _ hC' hle hd⟩)
  split at he
  ·rename_i e
   simp only [Option.some.injEq] at he
   subst he; subst e
   exact ⟨fun s' H' O' a' w' hC' hle hd => by
    show Exit.inBlock j Q (.exit j) (shift d a') w'
    simp only [Exit.inBlock, if_true]
    exact hk.go _ _ _ _ _ hC' hle hd⟩
  ·rename_i e
   exact ⟨fun s' H' O' a' w' hC' hle hd => by
    show Exit.inBlock id Q (.exit j) (shift d a') w'
    simp only [Exit.inBlock, if_neg e]
    exact (hX j kx he).go _ _ _ _ _ hC' hle hd⟩
 | exit id =>
  intro s k X R H O a w Q hq hL h hC hk hX hR
  simp only [sx] at h
  split at h
  ·rename_i kx he
   exact wpIn_exit ((hX id kx he).go _ _ _ _ _ hC (Heap.le_refl H) h)
  ·exact h.elim
 | ret =>
  intro s k X R H O a w Q hq hL h hC hk hX hR
  exact wpIn_ret (hR.go _ _ _ _ _ hC (Heap.le_refl H) h)
 | _ => intro s k X R H O a w Q hq; cases hq
theorem iT {F F' : Own} {s : SS} {H : Heap} {O : Own} {a : Act} {w : World} (h : Conc F s H O a w) (hp : F.Perm F') : Conc F' s H O a w :=
 ⟨h.ok, h.df, h.sz, h.tm, let ⟨L, hL, hm⟩ := h.mm; ⟨L, hL, hm.perm (List.Perm.append_left _ (List.Perm.append_left _ hp))⟩⟩
theorem q0 (L O F : Own) (p : Nat × Obj) : (L ++ (O ++ p :: F)).Perm (p :: (L ++ (O ++ F))) := by
 rw [← List.append_assoc, ← List.append_assoc]
 exact List.perm_middle
theorem sT {F : Own} {s : SS} {H : Heap} {O : Own} {a : Act} {w : World} (h : Conc F s H O a w) (o : Obj) : Conc ((w.heap.size, o) :: F) s H O a (w.alloc o) := by
 obtain ⟨L, hL, hm⟩ := h.mm
 exact ⟨h.ok, h.df, h.sz, h.tm, L, hL, (hm.push o).perm (q0 L O F _).symm⟩
theorem fh {F : Own} {s : SS} {H : Heap} {O : Own} {a : Act} {w : World} {r : Nat} {o : Obj} (h : Conc ((r, o) :: F) s H O a w) : w.heap[r]? = some o := by
 obtain ⟨L, hL, hm⟩ := h.mm
 exact (hm.own (r, o) (by simp)).1
theorem uR {F : Own} {s : SS} {H : Heap} {O : Own} {a : Act} {w w' : World} {r : Nat} {o o' : Obj} (h : Conc ((r, o) :: F) s H O a w) (hs : ∀ b, b ≠ r → w'.heap[b]? = w.heap[b]?) (hr : w'.heap[r]? = some o') (he : dA w' = dA w) : Conc ((r, o') :: F) s H O a w' := by
 obtain ⟨L, hL, hm⟩ := h.mm
 exact ⟨h.ok, h.df, h.sz, h.tm, L, hL, ((hm.perm (q0 L O F _)).update hs hr he).perm (q0 L O F _).symm⟩
theorem iS {F : Own} {s : SS} {H : Heap} {O : Own} {a : Act} {w : World} {r : Nat} {o : Obj} (h : Conc ((r, o) :: F) s H O a w) (o' : Obj) : Conc ((r, o') :: F) s H O a (w.putObj r o') :=
 uR h (fun b hb => World.putObj_heap_other hb) (World.putObj_heap_same (Array.getElem?_eq_some_iff.1 (fh h)).1) rfl
theorem sS {F F2 : Own} {s s2 : SS} {H H2 : Heap} {O O2 : Own} {a a2 : Act} {w w2 : World} (h : Conc F s H O a w) (h2 : Conc F2 s2 H2 O2 a2 w2) (hsz : s.sz = s2.sz) (ht : s.tmps = s2.tmps) : Conc F s H O a2 w :=
 ⟨h.ok, h2.df, by rw [hsz]; exact h2.sz, by rw [ht]; exact h2.tm, h.mm⟩
theorem mP (a : Act) : shift [] a = a := by simp [shift]
section
variable {P : Program} {α : Type}
structure RangeLoop (P : Program) (opts : vZ) (α : Type) where
 h : SS
 keep : List Nat
 hb : List (Nat × Bx × List Nat × Nat)
 p : Nat
 enc : α → Value
 assign : Code
 body : Code
 Rel : List α → List Value → Heap → Own → Prop
 RelX : List Value → Heap → Own → Prop
def RangeLoop.hs {opts : vZ} (R : RangeLoop P opts α) (v : List Value) : SS := gQ R.h [] R.keep R.hb v
def RangeLoop.round {opts : vZ} (R : RangeLoop P opts α) (pre : List α) (x : α) (v : List Value) : Tree :=
 sx P opts R.assign ((R.hs v).set (some R.p) (.s (.at (.v (R.enc x)))))
  (fun s' => sx P opts R.body s'
   (fun s2 => ep 0 (fun vs H O => Cons H O → ∃ H3 O3, Ghost H O H3 O3 ∧ R.Rel (pre ++ [x]) vs H3 O3) [] R.keep R.hb R.h s2) (fun _ => none)
   (fun s2 => ep 0 (fun vs H O => Cons H O → ∃ H3 O3, Ghost H O H3 O3 ∧ R.RelX vs H3 O3) [] R.keep R.hb R.h s2))
  (fun _ => none) (fun _ => .stuck 920)
theorem wQ {opts : vZ} (hm : P.follows .mixedOrders = true) (hokf : ∀ f, opts.okf f = true → gU P f) (R : RangeLoop P opts α) (QT : Value → Heap → Own → Prop)
  (hqa : o5 R.assign = true) (hqb : o5 R.body = true) (hok : R.h.Ok) (hhb : ∀ n b cells i, (n, b, cells, i) ∈ R.hb → R.h.mem n = some b) (hp : R.p < R.h.sz) (hone : ∀ x, (R.enc x).oneCell' = true)
  {F : Own} {k1 : Nat} {o0 : Obj} {H0 : Heap} {O0 : Own} {a : Act} {w : World} {v0 : List Value} (hC : Conc ((k1, o0) :: F) (R.hs v0) H0 O0 a w) (hrel : R.Rel [] v0 H0 O0)
  {Nx : List α → α → Prop} (hround : ∀ pre x v H O, Nx pre x → Ones v → v.length = jd R.hb → Heap.le H0 H → R.Rel pre v H O → (R.round pre x v).den P QT H O) (hv0 : Ones v0 ∧ v0.length = jd R.hb)
  {g : Operand} {gf : Nat} {lb : Array Value} (hg : a.eval g = .func (.func gf) #[] lb) (eg : ∀ args w, (callFunc gf args).run P w = .ok (.enter gf args) w) {S : List α → Prop}
  (hiter : ∀ (l : Nat) (K : List α → Obj → World → Prop) (Kx : World → Prop),
   (∀ pre o o' W W', K pre o W → (∀ b, b ≠ k1 → W'.heap[b]? = W.heap[b]?) → W'.heap[k1]? = some o' → dA W' = dA W → K pre o' W') →
   (∀ pre o W, K pre o W → ∃ H O, Heap.le H0 H ∧ Models W H O ∧ (k1, o) ∈ O) →
   (∀ pre x o W, Nx pre x → K pre o W → YieldAt (Fr none) 0 P l #[R.enc x] W fun e W' => (e = .returned (.bool true) ∧ K (pre ++ [x]) o W') ∨ (e = .returned (.bool false) ∧ Kx W')) →
   ∀ W, K [] o0 W → CallsIn (Fr none) 0 P gf (#[.func (.yield l) #[] #[]] ++ lb) W fun e W' => (∃ v, e = .returned v) ∧ ((∃ xs o, S xs ∧ K xs o W') ∨ Kx W'))
  {Q : Exit → Act → World → Prop}
  (hdone : ∀ D xs v H O W F', S xs → Ones v → v.length = jd R.hb → Heap.le H0 H → R.Rel xs v H O → Conc ((D, .deferred (some [])) :: (F' ++ F)) (R.hs v) H O a W → Q .normal (shift [{ target := .collected D, args := #[] }] a) W)
  (hstop : ∀ D v H O W F', Ones v → v.length = jd R.hb → Heap.le H0 H → R.RelX v H O → Conc ((D, .deferred (some [])) :: (F' ++ F)) (R.hs v) H O a W → Q .ret (shift [{ target := .collected D, args := #[] }] a) W) :
  (Code.rangeFunc g #[R.p] R.assign R.body).wpIn (Fr none) 0 P Q a w := by
 refine wpIn_rangeFunc ?_
 intro fn hfn
 obtain ⟨rec, hrec⟩ : ∃ rec : LoopState → Option Code → Loop, rec = fun st pe => { state := st, pending := pe, fn, tmps := a.tmps, params := #[R.p], assign := R.assign, body := R.body, defers := w.heap.size } := ⟨_, rfl⟩
 have hadf : a.defers = [] := hC.df
 have hC1 := sT hC (.deferred (some []))
 have hC2 := sT hC1 (.loop (rec .ready none))
 rw [World.size_alloc] at hC2
 generalize hl : w.heap.size + 1 = l at hC2
 generalize hW1 : (w.alloc (.deferred (some []))).alloc (.loop (rec .ready none)) = W1 at hC2
 refine ⟨l, [{ target := .collected w.heap.size, args := #[] }], W1, { target := .fn (.func gf) lb, args := #[.func (.yield l) #[] #[]] }, W1, gf, #[.func (.yield l) #[] #[]] ++ lb, W1, ?_, ?_, fun _ _ => trivial, ?_, fun _ => by trivial, ?_⟩
 ·rw [← hW1, hrec, ← hl]; exact run_enterLoop_outer _ _ _ _ _
 ·simp only [resolve, hg]
  simp [go_sem]
 ·simp [invoke, go_sem, eg]
 let K : List α → Obj → World → Prop := fun pre o W => ∃ v H O, Ones v ∧ v.length = jd R.hb ∧ Heap.le H0 H ∧ R.Rel pre v H O ∧ Conc ((l, .loop (rec .ready none)) :: (w.heap.size, .deferred (some [])) :: (k1, o) :: F) (R.hs v) H O a W
 let Kx : World → Prop := fun W => ∃ o v H O, Ones v ∧ v.length = jd R.hb ∧ Heap.le H0 H ∧ R.RelX v H O ∧ Conc ((l, .loop (rec .done (some .ret))) :: (w.heap.size, .deferred (some [])) :: (k1, o) :: F) (R.hs v) H O a W
 have hsw : ∀ {A B C : Nat × Obj} {X : Own}, (A :: B :: C :: X).Perm (C :: A :: B :: X) := fun {A B C X} => (List.Perm.cons A (List.Perm.swap C B X)).trans (List.Perm.swap C A _)
 have hcall := hiter l K Kx
  (by
   rintro pre o o' W W' ⟨v, H, O, v1, v2, h1, h2, h3⟩ hs hr he
   exact ⟨v, H, O, v1, v2, h1, h2, iT (uR (iT h3 hsw) hs hr he) hsw.symm⟩)
  (by
   rintro pre o W ⟨v, H, O, v1, v2, h1, h2, h3⟩
   obtain ⟨L, hL, hmm⟩ := h3.mm
   exact ⟨H, _, h1, hmm, by simp⟩)
  (by
   rintro pre x o W hnx ⟨v, H, O, v1, v2, h1, h2, h3⟩
   have hlo := fh h3
   have hy := run_yield (P := P) (args := #[R.enc x]) hlo (by rw [hrec]; rfl)
   rw [hrec] at hy
   refine ⟨fn, _, R.assign, R.body, hy, roundIn_of_wpIn trivial ?_⟩
   have ha0 : ({ tmps := ((#[R.p] : Array Tmp).zip #[R.enc x]).foldl (fun tmps (t, a) => tmps.setIfInBounds t a) a.tmps, defers := [] } : Act) = shift [] (a.put (some R.p) (R.enc x)) := by
    rw [mP]
    obtain ⟨t, df⟩ := a
    simp only at hadf
    subst hadf
    simp [Act.put]
   have hact := h3.put (dst := some R.p) (sv := .s (.at (.v (R.enc x)))) (v := R.enc x) (fun d e => by cases e; exact hp) (cg rfl) (fun b hb => by
    simp only [S1.cells, List.mem_singleton] at hb
    subst hb
    exact hone x)
   have hd := hround pre x v H O hnx v1 v2 h1 h2
   have goal := fF (ro := some l) (n := 0) (d := []) (F := (l, .loop (rec .ready none)) :: (w.heap.size, .deferred (some [])) :: (k1, o) :: F) hm hokf R.assign (Q := Exit.then (fun a₁ w₁ => ∃ w₂, (Instr.beginRound l).run P w₁ = .ok () w₂ ∧ R.body.wpIn (Fr (some l)) 0 P (roundPost P l fun e W' => (e = .returned (.bool true) ∧ K (pre ++ [x]) o W') ∨ (e = .returned (.bool false) ∧ Kx W')) a₁ w₂) (fun _ _ _ => False))
    hqa (fun _ _ h => h) hd hact ⟨?_⟩ (fun id kx he => by cases he) ⟨fun s' H' O' a' w' _ _ hd' => hd'.elim⟩
   ·rw [← ha0] at goal
    exact goal
   ·intro s' H' O' a' w' hC' hle hd'
    have hb := iS hC' (.loop { rec .ready none with state := .busy })
    refine ⟨_, run_beginRound (fh hC') (by rw [hrec]), ?_⟩
    refine fF (ro := some l) (n := 0) (d := []) hm hokf R.body hqb (fun _ _ h => h) hd' hb ⟨?_⟩ (fun id kx he => by cases he) ⟨?_⟩
    ·intro s2 H2 O2 a2 w2 hC2 hle2 hd2
     obtain ⟨b1, b2, b3, b4⟩ := eA hd2 hC2 hok hhb
     obtain ⟨H3, O3, hg3, hr3⟩ := b1 b2.cons
     obtain ⟨b5, hle3⟩ := b2.ghost hg3
     have hend := run_endRound (P := P) none (fh b5)
     refine ⟨_, _, hend, .inl ⟨rfl, _, H3, O3, b3, by simpa using b4, Heap.le_trans h1 (Heap.le_trans hle (Heap.le_trans hle2 hle3)), hr3, ?_⟩⟩
     have hput := iS b5 (.loop { ({ rec .ready none with state := .busy } : Loop) with state := if (none : Option Code).isNone then .ready else .done, pending := none })
     have e : (.loop { ({ rec .ready none with state := .busy } : Loop) with state := if (none : Option Code).isNone then .ready else .done, pending := none } : Obj) = .loop (rec .ready none) := by rw [hrec]; rfl
     rw [e] at hput ⊢
     exact sS hput h3 rfl rfl
    ·intro s2 H2 O2 a2 w2 hC2 hle2 hd2
     obtain ⟨b1, b2, b3, b4⟩ := eA hd2 hC2 hok hhb
     obtain ⟨H3, O3, hg3, hr3⟩ := b1 b2.cons
     obtain ⟨b5, hle3⟩ := b2.ghost hg3
     have hend := run_endRound (P := P) (some .ret) (fh b5)
     refine ⟨_, _, hend, .inr ⟨rfl, o, _, H3, O3, b3, by simpa using b4, Heap.le_trans h1 (Heap.le_trans hle (Heap.le_trans hle2 hle3)), hr3, ?_⟩⟩
     have hput := iS b5 (.loop { ({ rec .ready none with state := .busy } : Loop) with state := if (some Code.ret).isNone then .ready else .done, pending := some .ret })
     have e : (.loop { ({ rec .ready none with state := .busy } : Loop) with state := if (some Code.ret).isNone then .ready else .done, pending := some .ret } : Obj) = .loop (rec .done (some .ret)) := by rw [hrec]; rfl
     rw [e] at hput ⊢
     exact sS hput h3 rfl rfl)
  W1 ⟨v0, H0, O0, hv0.1, hv0.2, Heap.le_refl H0, hrel, hC2⟩
 refine CallsIn.mono hcall ?_
 have hsh : ({ a with defers := [{ target := .collected w.heap.size, args := #[] }] ++ a.defers } : Act) = shift [{ target := .collected w.heap.size, args := #[] }] a := by
  simp [shift, hadf]
 rintro e W2 ⟨⟨vr, rfl⟩, (⟨xs, o, hS, v, H, O, v1, v2, h1, h2, h3⟩ | ⟨o, v, H, O, v1, v2, h1, h2, h3⟩)⟩
 ·have hend := run_endLoop (P := P) (fh h3) (by rw [hrec]; simp)
  have hpe : (rec .ready none).pending = none := by rw [hrec]
  refine ⟨none, _, hend.trans (congrArg (fun j => Result.ok j _) hpe), ?_⟩
  rw [hsh]
  have h4 := iS h3 (.loop { rec .ready none with state := .exhausted })
  exact hdone w.heap.size xs v H O _ [(l, .loop { rec .ready none with state := .exhausted }), (k1, o)] hS v1 v2 h1 h2 (iT h4 (List.Perm.swap _ _ _))
 ·have hend := run_endLoop (P := P) (fh h3) (by rw [hrec]; simp)
  have hpe : (rec .done (some .ret)).pending = some .ret := by rw [hrec]
  refine ⟨some .ret, _, hend.trans (congrArg (fun j => Result.ok j _) hpe), ?_⟩
  rw [hsh]
  have h4 := iS h3 (.loop { rec .done (some .ret) with state := .exhausted })
  exact wpIn_ret (hstop w.heap.size v H O _ [(l, .loop { rec .done (some .ret) with state := .exhausted }), (k1, o)] v1 v2 h1 h2 (iT h4 (List.Perm.swap _ _ _)))
end
theorem xP {F : Own} {s : SS} {H : Heap} {O : Own} {a : Act} {w : World} {p : Nat × Obj} (h : Conc F s H (p :: O) a w) : Conc (p :: F) s H O a w := by
 obtain ⟨L, hL, hm⟩ := h.mm
 exact ⟨h.ok, h.df, h.sz, h.tm, L, hL, hm.perm (List.Perm.append_left _ (List.perm_middle (l₁ := O)).symm)⟩
abbrev mark (D : Nat) : Deferred := { target := .collected D, args := #[] }
theorem nS {P : Program} {fn : Func} {QT : Value → Heap → Own → Prop} {D : Nat} {F1 : Own} {s : SS} {H : Heap} {O : Own} {a : Act} {w : World} {R : Ending → World → Prop}
  (hC : Conc ((D, .deferred (some [])) :: F1) s H O a w) (hd : (js P fn s).den P QT H O)
  (hR : ∀ v H' O' w', QT v H' O' → Heap.le H H' → Models w' H' (O' ++ F1) → R (.returned v) w') : LeavesInM (Fr none) 0 P fn (shift [mark D] a).tmps R (shift [mark D] a).defers .returning w := by
 have hdf : (shift [mark D] a).defers = [mark D] := by simp [shift, hC.df]
 rw [hdf]
 have hC2 := iS hC (.deferred none)
 obtain ⟨_, v, h2, H2, O2, h3, h4, h5⟩ := nj hC2 hd
 refine ⟨by simp, .inl ⟨D, _, rfl, run_takeDeferred (fh hC), ?_⟩⟩
 refine ⟨v, h2, hR v H2 O2 _ h3 h4 (h5.sub (List.Sublist.append_left (List.sublist_cons_self _ _) _))⟩
noncomputable section
inductive G (α : Type) where
 | fail (n : Nat)
 | done (a : α)
 | box (k : Nat → G α)
 | chk (c : List Ck) (g : G α)
 | eql (a b : List At) (g : G α)
variable {α β : Type}
def G.bind (g : G α) (f : α → G β) : G β :=
 G.rec (motive := fun _ => G β) (fun n => .fail n) (fun a => f a) (fun _ ih => .box ih) (fun c _ ih => .chk c ih) (fun a b _ ih => .eql a b ih) g
def G.mchk (c : List Ck) (g : G α) : G α := match c with | [] => g | c => .chk c g
def G.den : G α → (α → Prop) → Prop
 | .fail _, _ => False
 | .done a, P => P a
 | .box k, P => ∀ r, (k r).den P
 | .chk c g, P => AllCk c ∧ g.den P
 | .eql a b g, P => a = b ∧ g.den P
theorem G.den_mono {P Q : α → Prop} (h : ∀ a, P a → Q a) : ∀ {g : G α}, g.den P → g.den Q
 | .fail _, hg => hg
 | .done a, hg => h a hg
 | .box _, hg => fun r => den_mono h (hg r)
 | .chk _ _, hg => ⟨hg.1, den_mono h hg.2⟩
 | .eql _ _ _, hg => ⟨hg.1, den_mono h hg.2⟩
theorem G.den_bind {P : β → Prop} {f : α → G β} : ∀ {g : G α}, (g.bind f).den P → g.den fun a => (f a).den P
 | .fail _, hg => hg
 | .done _, hg => hg
 | .box _, hg => fun r => den_bind (hg r)
 | .chk _ _, hg => ⟨hg.1, den_bind hg.2⟩
 | .eql _ _ _, hg => ⟨hg.1, den_bind hg.2⟩
theorem G.den_mchk {P : α → Prop} {c : List Ck} {g : G α} (h : (G.mchk c g).den P) : AllCk c ∧ g.den P := by
 cases c with
 | nil => exact ⟨trivial, h⟩
 | cons x r => exact h
theorem G.den_ex {P : α → Prop} : ∀ {g : G α}, g.den P → ∃ a, P a
 | .fail _, hg => hg.elim
 | .done a, hg => ⟨a, hg⟩
 | .box _, hg => den_ex (hg 0)
 | .chk _ _, hg => den_ex hg.2
 | .eql _ _ _, hg => den_ex hg.2
theorem G.den_forall {P : Nat → α → Prop} : ∀ {g : G α}, (∀ r, g.den (P r)) → g.den fun a => ∀ r, P r a
 | .fail _, hg => hg 0
 | .done _, hg => hg
 | .box _, hg => fun r => den_forall fun r' => hg r' r
 | .chk _ _, hg => ⟨(hg 0).1, den_forall fun r => (hg r).2⟩
 | .eql _ _ _, hg => ⟨(hg 0).1, den_forall fun r => (hg r).2⟩
theorem G.den_and {c : Prop} {P : α → Prop} (hc : c) {g : G α} (h : g.den P) : g.den fun a => c ∧ P a := den_mono (fun _ h => ⟨hc, h⟩) h
theorem G.den_comm {R : α → β → Prop} : ∀ {a : G α} {b : G β}, a.den (fun u => b.den fun v => R u v) → b.den fun v => a.den fun u => R u v
 | .fail _, _, h => h.elim
 | .done _, _, h => h
 | .box _, _, h => den_forall fun r => den_comm (h r)
 | .chk _ _, _, h => den_and h.1 (den_comm h.2)
 | .eql _ _ _, _, h => den_and h.1 (den_comm h.2)
inductive LT where
 | leaf (l : List Nat)
 | ats (l : List At)
 | node (a b : LT)
def jD : List Ck → Option (List Nat × List Nat)
 | [] => some ([], [])
 | .eqN a b :: r => match jD r with | some (x, y) => some (a :: x, b :: y) | none => none
 | .ptr _ v :: r => if sD v then jD r else none
 | _ :: _ => none
theorem iq : ∀ {c : List Ck} {x y : List Nat}, jD c = some (x, y) → x = y → AllCk c
 | [], _, _, _, _ => trivial
 | .eqN a b :: r, x, y, h, e => by
  simp only [jD] at h
  split at h
  ·rename_i x' y' hr
   simp only [Option.some.injEq, Prod.mk.injEq] at h
   obtain ⟨rfl, rfl⟩ := h
   simp only [List.cons.injEq] at e
   exact ⟨e.1, iq hr e.2⟩
  ·simp at h
 | .ptr _ v :: r, x, y, h, e => by
  simp only [jD] at h
  split at h
  ·rename_i hv; exact ⟨fun _ => hv, iq h e⟩
  ·simp at h
 | .eqV _ _ :: _, _, _, h, _ => by simp [jD] at h
structure XS (α : Type) where
 x : LT
 y : LT
 rs : List Nat
 g : G α
def G.exN : Nat → G α → List Nat → XS α
 | 0, g, rs =>
  match g with
  | .box k => match rs with | [] => ⟨.leaf [], .leaf [], [], .fail 801⟩ | r :: rs => ⟨.leaf [], .leaf [], rs, k r⟩
  | .chk c g => match jD c with | some (x, y) => ⟨.leaf x, .leaf y, rs, g⟩ | none => ⟨.leaf [], .leaf [], rs, .fail 802⟩
  | .eql a b g => ⟨.ats a, .ats b, rs, g⟩
  | g => ⟨.leaf [], .leaf [], rs, g⟩
 | n + 1, g, rs =>
  match G.exN n g rs with
  | ⟨x, y, rs', g'⟩ =>
   match g' with
   | .done a => ⟨x, y, rs', .done a⟩
   | .fail k => ⟨x, y, rs', .fail k⟩
   | g' => match G.exN n g' rs' with | ⟨x', y', rs'', g''⟩ => ⟨.node x x', .node y y', rs'', g''⟩
theorem G.exN_spec : ∀ (n : Nat) (g : G α) (rs : List Nat), (∃ m, m ≤ rs.length ∧ (G.exN n g rs).rs = rs.drop m ∧
  ∀ t, G.exN n g (rs.take m ++ t) = ⟨(G.exN n g rs).x, (G.exN n g rs).y, t, (G.exN n g rs).g⟩) ∨ (∃ k, (G.exN n g rs).g = .fail k)
 | 0, g, rs => by
  cases g with
  | fail k => exact .inr ⟨k, rfl⟩
  | done a => exact .inl ⟨0, Nat.zero_le _, rfl, fun t => rfl⟩
  | box k =>
   cases rs with
   | nil => exact .inr ⟨801, rfl⟩
   | cons r rs => exact .inl ⟨1, by simp, rfl, fun t => rfl⟩
  | chk c g =>
   simp only [exN]
   split
   ·exact .inl ⟨0, Nat.zero_le _, rfl, fun t => rfl⟩
   ·exact .inr ⟨802, rfl⟩
  | eql a b g => exact .inl ⟨0, Nat.zero_le _, rfl, fun t => rfl⟩
 | n + 1, g, rs => by
  have h1 := exN_spec n g rs
  simp only [exN]
  generalize hx : G.exN n g rs = X at h1 ⊢
  obtain ⟨x, y, rs', g'⟩ := X
  rcases h1 with ⟨m, hm, hrs, ht⟩ | ⟨k, hk⟩
  ·simp only at hrs ht ⊢
   cases g' with
   | fail k => exact .inr ⟨k, rfl⟩
   | done a => exact .inl ⟨m, hm, hrs, fun t => by rw [ht t]⟩
   | box gg =>
    simp only
    rcases exN_spec n (.box gg) rs' with ⟨m', hm', hrs', ht'⟩ | ⟨k, hk⟩
    ·refine .inl ⟨m + m', ?_, ?_, fun t => ?_⟩
     ·rw [hrs, List.length_drop] at hm'; omega
     ·rw [hrs', hrs, List.drop_drop]
     ·have e : rs.take (m + m') ++ t = rs.take m ++ (rs'.take m' ++ t) := by
       rw [hrs, List.take_add, List.append_assoc]
      rw [e, ht]
      simp only
      rw [ht']
    ·exact .inr ⟨k, hk⟩
   | chk cc gg =>
    simp only
    rcases exN_spec n (.chk cc gg) rs' with ⟨m', hm', hrs', ht'⟩ | ⟨k, hk⟩
    ·refine .inl ⟨m + m', ?_, ?_, fun t => ?_⟩
     ·rw [hrs, List.length_drop] at hm'; omega
     ·rw [hrs', hrs, List.drop_drop]
     ·have e : rs.take (m + m') ++ t = rs.take m ++ (rs'.take m' ++ t) := by
       rw [hrs, List.take_add, List.append_assoc]
      rw [e, ht]
      simp only
      rw [ht']
    ·exact .inr ⟨k, hk⟩
   | eql aa bb gg =>
    simp only
    rcases exN_spec n (.eql aa bb gg) rs' with ⟨m', hm', hrs', ht'⟩ | ⟨k, hk⟩
    ·refine .inl ⟨m + m', ?_, ?_, fun t => ?_⟩
     ·rw [hrs, List.length_drop] at hm'; omega
     ·rw [hrs', hrs, List.drop_drop]
     ·have e : rs.take (m + m') ++ t = rs.take m ++ (rs'.take m' ++ t) := by
       rw [hrs, List.take_add, List.append_assoc]
      rw [e, ht]
      simp only
      rw [ht']
    ·exact .inr ⟨k, hk⟩
  ·simp only at hk
   subst hk
   exact .inr ⟨k, rfl⟩
theorem G.exN_den {P : α → Prop} : ∀ (n N : Nat) (g : G α), (∀ rs : List Nat, rs.length = N → (G.exN n g rs).x = (G.exN n g rs).y ∧
  (∀ t : List Nat, t.length = (G.exN n g rs).rs.length → (G.exN n g rs).g.den P)) → g.den P
 | 0, N, g, h => by
  cases g with
  | fail k => exact (h (List.replicate N 0) (by simp)).2 _ rfl
  | done a => exact (h (List.replicate N 0) (by simp)).2 _ rfl
  | box k =>
   cases N with
   | zero => exact ((h [] rfl).2 [] rfl).elim
   | succ N => exact fun r => (h (r :: List.replicate N 0) (by simp)).2 _ rfl
  | chk c g =>
   have := h (List.replicate N 0) (by simp)
   simp only [exN] at this
   split at this
   ·rename_i x y hc
    simp only [LT.leaf.injEq] at this
    exact ⟨iq hc this.1, this.2 _ rfl⟩
   ·exact (this.2 _ rfl).elim
  | eql a b g =>
   have := h (List.replicate N 0) (by simp)
   simp only [exN, LT.ats.injEq] at this
   exact ⟨this.1, this.2 _ rfl⟩
 | n + 1, N, g, h => by
  refine exN_den n N g fun rs hl => ?_
  have h0 := h rs hl
  simp only [exN] at h0
  have sp := exN_spec n g rs
  generalize hx : G.exN n g rs = X at h0 sp ⊢
  obtain ⟨x, y, rs', g'⟩ := X
  cases g' with
  | fail k => exact h0
  | done a => exact h0
  | box k =>
   simp only [LT.node.injEq] at h0 ⊢
   refine ⟨h0.1.1, fun _ _ => ?_⟩
   rcases sp with ⟨m, hm, hrs, ht⟩ | ⟨k', hk⟩
   ·refine exN_den n rs'.length _ fun rs2 hl2 => ?_
    have h2 := h (rs.take m ++ rs2) (by simp only at hrs; rw [List.length_append, List.length_take, hl2, hrs, List.length_drop]; omega)
    simp only [exN] at h2
    rw [ht] at h2
    simp only [LT.node.injEq] at h2
    exact ⟨h2.1.2, h2.2⟩
   ·simp at hk
  | chk c g'' =>
   simp only [LT.node.injEq] at h0 ⊢
   refine ⟨h0.1.1, fun _ _ => ?_⟩
   rcases sp with ⟨m, hm, hrs, ht⟩ | ⟨k', hk⟩
   ·refine exN_den n rs'.length _ fun rs2 hl2 => ?_
    have h2 := h (rs.take m ++ rs2) (by simp only at hrs; rw [List.length_append, List.length_take, hl2, hrs, List.length_drop]; omega)
    simp only [exN] at h2
    rw [ht] at h2
    simp only [LT.node.injEq] at h2
    exact ⟨h2.1.2, h2.2⟩
   ·simp at hk
  | eql a b g'' =>
   simp only [LT.node.injEq] at h0 ⊢
   refine ⟨h0.1.1, fun _ _ => ?_⟩
   rcases sp with ⟨m, hm, hrs, ht⟩ | ⟨k', hk⟩
   ·refine exN_den n rs'.length _ fun rs2 hl2 => ?_
    have h2 := h (rs.take m ++ rs2) (by simp only at hrs; rw [List.length_append, List.length_take, hl2, hrs, List.length_drop]; omega)
    simp only [exN] at h2
    rw [ht] at h2
    simp only [LT.node.injEq] at h2
    exact ⟨h2.1.2, h2.2⟩
   ·simp at hk
def XS.fine (p : α → Bool) (X : XS α) : Bool := match X.g with | .done a => p a | _ => false
theorem G.reckon {P : α → Prop} {p : α → Bool} (hp : ∀ a, p a = true → P a) (n N : Nat) (g : G α) (h : ∀ f : Nat → Nat, (G.exN n g ((List.range N).map f)).x = (G.exN n g ((List.range N).map f)).y ∧
  (G.exN n g ((List.range N).map f)).fine p = true) : g.den P := by
 refine G.exN_den n N g fun rs hl => ?_
 have e : rs = (List.range N).map fun i => rs.getD i 0 := by
  refine List.ext_getElem (by simp [hl]) fun i h1 h2 => ?_
  simp [h1]
 have := h fun i => rs.getD i 0
 rw [← e] at this
 refine ⟨this.1, fun _ _ => ?_⟩
 have h2 := this.2
 unfold XS.fine at h2
 split at h2
 ·rename_i a ha; rw [ha]; exact hp a h2
 ·cases h2
end
noncomputable section
abbrev FZ := List (List UInt8 × Value)
structure MB where
 r : Nat
 kd : IntKind
 m : List (Int × Value)
 sm : Option FZ
def MB.rows (m : MB) : List (Value × Value) :=
 match m.sm with
 | none => m.m.map fun p => (.int m.kd p.1, p.2)
 | some l => l.map fun p => (.string ⟨p.1.toArray⟩, p.2)
def MB.is (m : MB) (p : Nat × Obj) : Prop := ∃ es clock, p = (m.r, .map es clock) ∧ es.toList.map (fun e => (e.key, e.val)) = m.rows
def oN : List (Nat × MB) → Own → Prop
 | [], O => O = []
 | (_, m) :: r, O => ∃ p O', O = p :: O' ∧ m.is p ∧ oN r O'
structure HS where
 ms : List (Nat × MB)
 gr : List (Nat × Nat × Nat)
structure CS where
 s : SS
 h : HS
structure Upd where
 val : Option SV
 bx : List (Nat × Option Bx)
 hv : Option (Nat × HS)
def aO (l : List (Nat × Option Bx)) (n : Nat) : Option (Option Bx) :=
 match l with
 | [] => none
 | (k, a) :: r => if n = k then some a else aO r n
def o6 (d : Option Tmp) (v : Option SV) (f : Nat → SV) : Nat → SV :=
 match d, v with
 | some d, some v => fun t => if t = d then v else f t
 | _, _ => f
def Ba (l : List (Nat × Option Bx)) (f : Nat → Option Bx) : Nat → Option Bx :=
 match l with
 | [] => f
 | p :: r => fun n => match aO (p :: r) n with | some b => b | none => f n
def CS.app (d : Option Tmp) (u : Upd) (x : CS) : CS :=
  { s :=
    { sz := x.s.sz
      tmps := o6 d u.val x.s.tmps
      mem := Ba u.bx x.s.mem
      next := match u.hv with | some h => h.1 | none => x.s.next }
    h := match u.hv with | some h => h.2 | none => x.h }
structure Ef where
 cs : List Ck
 body : G Upd
 rd : List Nat
 wr : List Nat
 lo : Option Nat
def okU (hi : Nat) (e : Ef) (u : Upd) : Bool :=
 match e.lo with
 | none => u.hv.isNone && u.bx.all (fun p => e.wr.contains p.1) && e.wr.all (fun n => decide (n < hi))
 | some l => match u.hv with
  | some h => decide (l ≤ h.1) && decide (hi ≤ l) && u.bx.all fun p => (e.wr.contains p.1 || decide (l ≤ p.1)) && decide (p.1 < h.1)
  | none => false
def Ef.run (hi : Nat) (e : Ef) (d : Option Tmp) (x : CS) (K : CS → Prop) : Prop := AllCk e.cs ∧ e.body.den fun u => okU hi e u = true ∧ K (x.app d u)
theorem Ef.run_mono {hi : Nat} {e : Ef} {d : Option Tmp} {x : CS} {K K' : CS → Prop} (hk : ∀ x, K x → K' x) (h : e.run hi d x K) : e.run hi d x K' :=
 ⟨h.1, G.den_mono (fun _ h => ⟨h.1, hk _ h.2⟩) h.2⟩
theorem pD {l : List (Nat × Option Bx)} {n : Nat} (h : ∀ p ∈ l, p.1 ≠ n) : aO l n = none := by
 induction l with
 | nil => rfl
 | cons p r ih =>
  obtain ⟨k, a⟩ := p
  have := h (k, a) (by simp)
  simp only at this
  simp only [aO, if_neg (fun e : n = k => this e.symm)]
  exact ih fun p hp => h p (List.mem_cons_of_mem _ hp)
theorem lk {l : List (Nat × Option Bx)} {n : Nat} {b : Option Bx} (h : aO l n = some b) : (n, b) ∈ l := by
 induction l with
 | nil => simp [aO] at h
 | cons p r ih =>
  obtain ⟨k, a⟩ := p
  simp only [aO] at h
  split at h
  ·rename_i e; simp only [Option.some.injEq] at h; subst h; subst e; simp
  ·exact List.mem_cons_of_mem _ (ih h)
theorem BR {d : Option Tmp} {v : Option SV} {f : Nat → SV} {t : Nat} (h : ∀ e, d = some e → t ≠ e) : o6 d v f t = f t := by
 unfold o6
 split
 ·simp only [if_neg (h _ rfl)]
 ·rfl
theorem nn {d : Tmp} {v : Option SV} {f : Nat → SV} : o6 (some d) v f d = v.getD (f d) := by
 cases v <;> simp [o6]
theorem nq {l : List (Nat × Option Bx)} {f : Nat → Option Bx} {n : Nat} : Ba l f n = match aO l n with | some b => b | none => f n := by
 cases l <;> rfl
theorem CS.app_tmps {d : Option Tmp} {u : Upd} {x : CS} {t : Nat} (h : ∀ e, d = some e → t ≠ e) : (x.app d u).s.tmps t = x.s.tmps t := BR h
theorem CS.app_mem {d : Option Tmp} {u : Upd} {x : CS} {n : Nat} : (x.app d u).s.mem n = match aO u.bx n with | some b => b | none => x.s.mem n := nq
theorem CS.app_mem' {d : Option Tmp} {u : Upd} {x : CS} {n : Nat} (h : ∀ p ∈ u.bx, p.1 ≠ n) : (x.app d u).s.mem n = x.s.mem n := by
 rw [CS.app_mem, pD h]
theorem CS.ext' {x y : CS} (h1 : x.s.sz = y.s.sz) (h2 : ∀ t, x.s.tmps t = y.s.tmps t) (h3 : ∀ n, x.s.mem n = y.s.mem n) (h4 : x.s.next = y.s.next) (h5 : x.h = y.h) : x = y := by
 obtain ⟨⟨a, b, c, d⟩, e⟩ := x
 obtain ⟨⟨a', b', c', d'⟩, e'⟩ := y
 simp only at *
 subst h1; subst h4; subst h5
 have : b = b' := funext h2
 subst this
 have : c = c' := funext h3
 subst this
 rfl
theorem CS.app_comm {da db : Option Tmp} {u v : Upd} {x : CS} (hd : ∀ d, da = some d → db ≠ some d) (hb : ∀ p ∈ u.bx, ∀ q ∈ v.bx, p.1 ≠ q.1) (hh : u.hv = none ∨ v.hv = none) :
  (x.app db v).app da u = (x.app da u).app db v := by
 refine CS.ext' rfl (fun t => ?_) (fun n => ?_) ?_ ?_
 ·by_cases h1 : da = some t
  ·have h2 : ∀ e, db = some e → t ≠ e := fun e he e' => hd t h1 (e' ▸ he)
   rw [CS.app_tmps (d := db) h2]
   subst h1
   show o6 _ _ (x.app db v).s.tmps t = o6 _ _ x.s.tmps t
   rw [nn, nn, CS.app_tmps h2]
  ·have h1' : ∀ e, da = some e → t ≠ e := fun e he e' => h1 (e' ▸ he)
   rw [CS.app_tmps (d := da) h1']
   by_cases h2 : db = some t
   ·subst h2
    show o6 _ _ x.s.tmps t = o6 _ _ (x.app da u).s.tmps t
    rw [nn, nn, CS.app_tmps h1']
   ·have h2' : ∀ e, db = some e → t ≠ e := fun e he e' => h2 (e' ▸ he)
    rw [CS.app_tmps h2', CS.app_tmps h2', CS.app_tmps h1']
 ·rw [CS.app_mem, CS.app_mem]
  cases hu : aO u.bx n with
  | none =>
   simp only
   rw [CS.app_mem]
   cases hv : aO v.bx n with
   | none => simp only; rw [CS.app_mem, hu]
   | some b => rfl
  | some b =>
   have : aO v.bx n = none := pD fun q hq e => hb _ (lk hu) q hq e.symm
   simp only
   rw [CS.app_mem, this]
   simp only
   rw [CS.app_mem, hu]
 ·unfold CS.app
  rcases hh with h | h <;> simp only [h]
 ·unfold CS.app
  rcases hh with h | h <;> simp only [h]
def ul (N : CS → Option Ef) (l : List Tmp) : Prop :=
 ∀ x x' e, N x = some e → x'.s.sz = x.s.sz → (∀ t ∈ l, x'.s.tmps t = x.s.tmps t) → (∀ n ∈ e.rd, x'.s.mem n = x.s.mem n) → (e.lo.isSome = true → x'.s.next = x.s.next ∧ x'.h = x.h) → N x' = some e
def ii (a b : Ef) : Bool := sN a.wr b.rd && sN a.wr b.wr && sN a.rd b.wr &&
 match a.lo, b.lo with
 | some _, some _ => false
 | some l, none => b.rd.all (fun n => decide (n < l)) && b.wr.all (fun n => decide (n < l))
 | none, some l => a.rd.all (fun n => decide (n < l)) && a.wr.all (fun n => decide (n < l))
 | none, none => true
theorem jv {hi : Nat} {a b : Ef} {u : Upd} (h : ii a b = true) (hu : okU hi a u = true) : ∀ p ∈ u.bx, p.1 ∉ b.rd ∧ p.1 ∉ b.wr ∧ (∀ l, b.lo = some l → p.1 < l) := by
 intro p hp
 simp only [ii, Bool.and_eq_true] at h
 obtain ⟨⟨⟨h1, h2⟩, h3⟩, h4⟩ := h
 unfold okU at hu
 cases hl : a.lo with
 | none =>
  simp only [hl, Bool.and_eq_true, List.all_eq_true] at hu
  have := hu.1.2 p hp
  have hin : p.1 ∈ a.wr := by simpa using this
  refine ⟨eK h1 hin, eK h2 hin, fun l hb => ?_⟩
  simp only [hl, hb, Bool.and_eq_true, List.all_eq_true] at h4
  simpa using h4.2 _ hin
 | some l =>
  simp only [hl] at hu
  split at hu
  ·rename_i hh hhv
   simp only [Bool.and_eq_true, List.all_eq_true] at hu
   have hp' := (hu.2 p hp).1
   simp only [Bool.or_eq_true, decide_eq_true_eq] at hp'
   cases hb : b.lo with
   | some l' => simp only [hl, hb] at h4; cases h4
   | none =>
    simp only [hl, hb, Bool.and_eq_true, List.all_eq_true, decide_eq_true_eq] at h4
    rcases hp' with hin | hge
    ·have hin : p.1 ∈ a.wr := by simpa using hin
     exact ⟨eK h1 hin, eK h2 hin, fun _ e => by cases e⟩
    ·exact ⟨fun hr => by have := h4.1 _ hr; omega, fun hw => by have := h4.2 _ hw; omega, fun _ e => by cases e⟩
  ·cases hu
theorem pR {a b : Ef} (h : ii a b = true) : ii b a = true := by
 simp only [ii, Bool.and_eq_true] at h ⊢
 obtain ⟨⟨⟨h1, h2⟩, h3⟩, h4⟩ := h
 have sw : ∀ {x y : List Nat}, sN x y = true → sN y x = true := by
  intro x y hxy
  unfold sN
  rw [List.all_eq_true]
  intro n hn
  simpa using lx hxy hn
 refine ⟨⟨⟨sw h3, sw h2⟩, sw h1⟩, ?_⟩
 cases ha : a.lo <;> cases hb : b.lo <;> simp_all
theorem w9 {hi : Nat} {a : Ef} {u : Upd} (hu : okU hi a u = true) (h : a.lo = none) : u.hv = none := by
 unfold okU at hu
 simp only [h, Bool.and_eq_true, Option.isNone_iff_eq_none] at hu
 exact hu.1.1
theorem uN {a b : Ef} (h : ii a b = true) : a.lo = none ∨ b.lo = none := by
 simp only [ii, Bool.and_eq_true] at h
 cases ha : a.lo with
 | none => exact .inl rfl
 | some l => cases hb : b.lo with
  | none => exact .inr rfl
  | some l' => simp [ha, hb] at h
theorem rb {hi : Nat} {N : CS → Option Ef} {l : List Tmp} (hC : ul N l) {da : Option Tmp} (hd : ∀ d, da = some d → d ∉ l) {a b : Ef} {u : Upd} {x : CS} (hi' : ii a b = true) (hu : okU hi a u = true) :
  N x = some b ↔ N (x.app da u) = some b := by
 have hn := jv hi' hu
 have hne : ∀ n ∈ b.rd, (x.app da u).s.mem n = x.s.mem n := fun n hr => CS.app_mem' fun p hp e => (hn p hp).1 (e ▸ hr)
 have ht : ∀ t ∈ l, (x.app da u).s.tmps t = x.s.tmps t := fun t htl => CS.app_tmps fun e he e' => hd e he (e' ▸ htl)
 have hs : b.lo.isSome = true → (x.app da u).s.next = x.s.next ∧ (x.app da u).h = x.h := by
  intro hb
  have hau : u.hv = none := w9 hu ((uN hi').resolve_right (fun e => by simp [e] at hb))
  unfold CS.app
  simp only [hau]
  exact ⟨trivial, trivial⟩
 constructor
 ·intro h; exact hC x _ b h rfl ht hne hs
 ·intro h; exact hC _ x b h rfl (fun t h' => (ht t h').symm) (fun n h' => (hne n h').symm) (fun h' => ⟨(hs h').1.symm, (hs h').2.symm⟩)
theorem Gh {hi : Nat} {da db : Option Tmp} {la lb : List Tmp} {Na Nb : CS → Option Ef} (Ca : ul Na la) (Cb : ul Nb lb)
  (h1 : ∀ d, da = some d → d ∉ lb) (h2 : ∀ d, da = some d → db ≠ some d) (h3 : ∀ d, db = some d → d ∉ la)
  {x : CS} {ea : Ef} (ha : Na x = some ea) {C : Ef → Prop} {K : CS → Prop}
  (hb : ea.run hi da x fun x' => ∃ eb, Nb x' = some eb ∧ ii ea eb = true ∧ C eb ∧ eb.run hi db x' K) :
  ∃ eb, Nb x = some eb ∧ ii ea eb = true ∧ C eb ∧ eb.run hi db x fun x' => Na x' = some ea ∧ ea.run hi da x' K := by
 obtain ⟨hcs, hb⟩ := hb
 obtain ⟨u0, hu0, eb, hn0, hi0, hC0, hr0⟩ := G.den_ex hb
 have hNb : Nb x = some eb := (rb Cb h1 hi0 hu0).2 hn0
 refine ⟨eb, hNb, hi0, hC0, hr0.1, ?_⟩
 have hb' : ea.body.den fun u => eb.body.den fun v => okU hi ea u = true ∧ okU hi eb v = true ∧ K ((x.app da u).app db v) := by
  refine G.den_mono ?_ hb
  rintro u ⟨hu, eb', hn', hi', _, hr'⟩
  have : eb' = eb := by
   have := (rb Cb h1 hi' hu).2 hn'
   rw [hNb] at this
   exact (Option.some.inj this).symm
  subst this
  exact G.den_mono (fun v hv => ⟨hu, hv.1, hv.2⟩) hr'.2
 have hc := G.den_comm hb'
 refine G.den_mono ?_ hc
 intro v hv
 obtain ⟨u1, hu1, hv1, _⟩ := G.den_ex hv
 refine ⟨hv1, (rb Ca h3 (pR hi0) hv1).1 ha, hcs, G.den_mono ?_ hv⟩
 rintro u ⟨hu, _, hk⟩
 refine ⟨hu, ?_⟩
 rw [CS.app_comm h2 ?_ ?_]
 ·exact hk
 ·intro p hp q hq e
  have hp' := jv hi0 hu p hp
  have hq' := jv (pR hi0) hv1 q hq
  have hv1' := hv1
  unfold okU at hv1'
  cases hl : eb.lo with
  | none =>
   simp only [hl, Bool.and_eq_true, List.all_eq_true] at hv1'
   have := hv1'.1.2 q hq
   exact hp'.2.1 (e ▸ (by simpa using this))
  | some l =>
   simp only [hl] at hv1'
   split at hv1'
   ·simp only [Bool.and_eq_true, List.all_eq_true] at hv1'
    have h5 := (hv1'.2 q hq).1
    simp only [Bool.or_eq_true, decide_eq_true_eq] at h5
    rcases h5 with h5 | h5
    ·exact hp'.2.1 (e ▸ (by simpa using h5))
    ·have := hp'.2.2 l hl; omega
   ·cases hv1'
 ·rcases uN hi0 with h | h
  ·exact .inl (w9 hu h)
  ·exact .inr (w9 hv1 h)
def F9 (bx : List (Nat × Option Bx)) (hv : Option (Nat × HS)) (sz : Nat) (tm : Nat → SV) (mem : Nat → Option Bx) (next : Nat) (h : HS) : CS :=
 match hv with
 | none => match bx with
  | [] => ⟨⟨sz, tm, mem, next⟩, h⟩
  | p :: r => ⟨⟨sz, tm, fun n => match aO (p :: r) n with | some b => b | none => mem n, next⟩, h⟩
 | some q => match q with
  | (nx, h') => match bx with
   | [] => ⟨⟨sz, tm, mem, nx⟩, h'⟩
   | p :: r => ⟨⟨sz, tm, fun n => match aO (p :: r) n with | some b => b | none => mem n, nx⟩, h'⟩
def CS.appD (d : Option Tmp) (u : Upd) (x : CS) : CS :=
 match x with
 | ⟨⟨sz, tmps, mem, next⟩, h⟩ =>
  match u with
  | ⟨val, bx, hv⟩ =>
   match d with
   | none => F9 bx hv sz tmps mem next h
   | some d => match val with
    | none => F9 bx hv sz tmps mem next h
    | some v => F9 bx hv sz (fun t => match Nat.beq t d with | true => v | false => tmps t) mem next h
theorem tZ (bx : List (Nat × Option Bx)) (hv : Option (Nat × HS)) (sz : Nat) (tm : Nat → SV) (mem : Nat → Option Bx) (next : Nat) (h : HS) :
  F9 bx hv sz tm mem next h = ⟨⟨sz, tm, Ba bx mem, match hv with | some h => h.1 | none => next⟩, match hv with | some h => h.2 | none => h⟩ := by
 cases hv with
 | none => cases bx <;> rfl
 | some q => cases bx <;> rfl
theorem CS.appD_eq (d : Option Tmp) (u : Upd) (x : CS) : x.appD d u = x.app d u := by
 obtain ⟨⟨sz, tmps, mem, next⟩, h⟩ := x
 obtain ⟨val, bx, hv⟩ := u
 cases d with
 | none => simp only [CS.appD, CS.app, tZ, o6]
 | some d =>
  cases val with
  | none => simp only [CS.appD, CS.app, tZ, o6]
  | some v =>
   have e : (fun t => match Nat.beq t d with | true => v | false => tmps t) = o6 (some d) (some v) tmps := by
    funext t
    simp only [o6]
    by_cases e : t = d
    ·subst e; simp
    ·have : Nat.beq t d = false := by
      cases hb : Nat.beq t d with
      | false => rfl
      | true => exact absurd (Nat.eq_of_beq_eq_true hb) e
     rw [this, if_neg e]
   simp only [CS.appD, CS.app, tZ]
   rw [e]
def CS.bump (x : CS) (n : Nat) : CS := match x with | ⟨⟨sz, tmps, mem, next⟩, h⟩ => ⟨⟨sz, tmps, mem, next + n⟩, h⟩
theorem CS.bump_eq (x : CS) (n : Nat) : x.bump n = { x with s := { x.s with next := x.s.next + n } } := by
 obtain ⟨⟨sz, tmps, mem, next⟩, h⟩ := x; rfl
structure vV where
 i : Nat
 o : Oper
 e : Ef
def fO (ops : Array Oper) (tab : List (Nat × Nat)) (i : Nat) (o : Oper) (x : Ef) (log : List vV) : Bool :=
 log.all fun l => o7 tab l.i i || (ii l.e x && Oper.apart ops l.o o)
structure RX where
 P : Program
 ops : Array Oper
 tab : List (Nat × Nat)
 hi : Nat
 N : Nat → Oper → CS → Option Ef
def RX.rr (c : RX) (d : Bool) (K : CS → Prop) : List (Nat × Oper) → List vV → CS → Prop
 | [], _, x => K x
 | (i, o) :: r, log, x => ∃ e, c.N i o x = some e ∧ (d = true → fO c.ops c.tab i o e log = true) ∧ e.run c.hi o.dst x (RX.rr c d K r (if d then ⟨i, o, e⟩ :: log else log))
def RX.reg (c : RX) (d : Bool) : List (Nat × Oper) → List vV → CS → G CS
 | [], _, x => .done x
 | (i, o) :: r, log, x =>
  match c.N i o x with
  | none => .fail (1000 + i)
  | some e =>
   if d && !fO c.ops c.tab i o e log then .fail (2000 + i)
   else G.mchk e.cs (e.body.bind fun u => if okU c.hi e u then RX.reg c d r (if d then ⟨i, o, e⟩ :: log else log) (x.appD o.dst u) else .fail (3000 + i))
theorem RX.reg_den {c : RX} {d : Bool} {K : CS → Prop} : ∀ {l : List (Nat × Oper)} {log : List vV} {x : CS}, (c.reg d l log x).den K → c.rr d K l log x
 | [], _, _, h => h
 | (i, o) :: r, log, x, h => by
  simp only [RX.reg] at h
  split at h
  ·exact h.elim
  ·rename_i e he
   split at h
   ·exact h.elim
   ·rename_i hc
    obtain ⟨h1, h2⟩ := G.den_mchk h
    refine ⟨e, he, fun hd => ?_, h1, G.den_mono (fun u hu => ?_) (G.den_bind h2)⟩
    ·subst hd
     simpa using hc
    ·split at hu
     ·rename_i hok; rw [CS.appD_eq] at hu; exact ⟨hok, RX.reg_den hu⟩
     ·exact hu.elim
theorem pw {ops : Array Oper} {tab : List (Nat × Nat)} {i : Nat} {o : Oper} {x : Ef} {log log' : List vV} (hs : ∀ e, e ∈ log' → e ∈ log) (h : fO ops tab i o x log = true) : fO ops tab i o x log' = true := by
 unfold fO at *
 rw [List.all_eq_true] at *
 exact fun e he => h e (hs e he)
theorem RX.weaken {c : RX} {K : CS → Prop} : ∀ {l : List (Nat × Oper)} {log log' : List vV} {x : CS}, (∀ e, e ∈ log' → e ∈ log) → c.rr true K l log x → c.rr true K l log' x
 | [], _, _, _, _, h => h
 | (i, o) :: r, log, log', x, hs, ⟨e, he, hc, hr⟩ => by
  refine ⟨e, he, fun hd => pw hs (hc hd), Ef.run_mono (fun _ hk => RX.weaken ?_ hk) hr⟩
  intro e he
  simp only [if_true, List.mem_cons] at he ⊢
  exact he.imp id (hs e)
theorem RX.front {c : RX} (hcong : ∀ i o, ul (c.N i o) (o.looksAt c.ops)) {K : CS → Prop} {i : Nat} {o : Oper} {l2 : List (Nat × Oper)} : ∀ {l1 : List (Nat × Oper)} {log : List vV} {x : CS},
  c.rr true K (l1 ++ (i, o) :: l2) log x → (∀ e ∈ l1, o7 c.tab e.1 i = false) →
  ∃ e, c.N i o x = some e ∧ fO c.ops c.tab i o e log = true ∧ e.run c.hi o.dst x (c.rr true K (l1 ++ l2) log)
 | [], log, x, ⟨e, he, hc, hr⟩, _ => ⟨e, he, hc rfl, Ef.run_mono (fun _ hk => RX.weaken (fun e he => by simp [he]) hk) hr⟩
 | (a, oa) :: l1, log, x, ⟨ea, hea, hc, hr⟩, ho => by
  have hc := hc rfl
  have hoa : o7 c.tab a i = false := ho (a, oa) (by simp)
  have hr' := Ef.run_mono (fun x' hk => RX.front hcong (l1 := l1) hk (fun e he => ho e (by simp [he]))) hr
  have hlog : ∀ {y : Ef}, fO c.ops c.tab i o y (⟨a, oa, ea⟩ :: log) = true → ii ea y = true ∧ Oper.apart c.ops oa o = true ∧ fO c.ops c.tab i o y log = true := by
   intro y h
   refine ⟨?_, ?_, pw (fun e he => by simp [he]) h⟩
   all_goals
    unfold fO at h
    rw [List.all_cons, Bool.and_eq_true] at h
    have := h.1
    simp only [hoa, Bool.false_or, Bool.and_eq_true] at this
   ·exact this.1
   ·exact this.2
  have hap : Oper.apart c.ops oa o = true := by
   obtain ⟨_, _, y, _, hl, _⟩ := G.den_ex hr'.2
   exact (hlog hl).2.1
  obtain ⟨p1, p2, p3⟩ := Oper.apart_spec hap
  have := Gh (hi := c.hi) (hcong a oa) (hcong i o) p1 p2 p3 hea (C := fun y => fO c.ops c.tab i o y log = true) (K := c.rr true K (l1 ++ l2) (⟨a, oa, ea⟩ :: log))
   (Ef.run_mono (fun x' ⟨y, hy, hl, hrun⟩ => ⟨y, hy, (hlog hl).1, (hlog hl).2.2, hrun⟩) hr')
  obtain ⟨y, hy, he, hC, hrun⟩ := this
  exact ⟨y, hy, hC, Ef.run_mono (fun x' ⟨h1, h3⟩ => ⟨ea, h1, fun _ => hc, h3⟩) hrun⟩
def CC (hi : Nat) (F : Own) (x : CS) (H : Heap) (a : Act) (w : World) : Prop :=
 (∃ O, oN x.h.ms O ∧ Conc F x.s H O a w) ∧ (∀ n, x.s.next ≤ n → x.s.mem n = none) ∧ hi ≤ x.s.next
def RX.Sound (c : RX) (H : Heap) : Prop := ∀ i o x e, c.ops[i]? = some o → c.N i o x = some e → ∀ (F : Own) (a : Act) (w : World) (K : CS → Prop) (Q : Exit → Act → World → Prop),
 CC c.hi F x H a w → e.run c.hi o.dst x K → wp1 c.P c.ops Q o (fun a' w' => ∃ x', CC c.hi F x' H a' w' ∧ K x') a w
theorem RX.any {c : RX} (hcong : ∀ i o, ul (c.N i o) (o.looksAt c.ops)) {H : Heap} (hsound : c.Sound H) (R : RC) (hRo : R.ops = c.ops) (hRt : R.tab = c.tab) (hT : EU R) {F : Own} {K : CS → Prop} {Q : Exit → Act → World → Prop} : ∀ (n : Nat) {l : List (Nat × Oper)} {fuel : Nat} {L : Array Bool} {x : CS} {a : Act} {w : World},
  l.length = n → n ≤ fuel → Inv R L l → CC c.hi F x H a w → c.rr true K l [] x →
  (∀ x' a' w', CC c.hi F x' H a' w' → K x' → Q .normal a' w') → wpAny c.P .any c.ops Q fuel L a w := by
 intro n
 induction n with
 | zero =>
  intro l fuel L x a w hl hf hI hC hR hK
  have : l = [] := List.eq_nil_of_length_eq_zero hl
  subst this
  refine wpAny_done ?_ (hK x a w hC hR) fuel
  refine List.eq_nil_iff_forall_not_mem.2 fun i hi => ?_
  obtain ⟨o, ho⟩ := (hI.pend i).1 (mem_ready.1 hi).1
  simp at ho
 | succ n ih =>
  intro l fuel L x a w hl hf hI hC hR hK
  cases fuel with
  | zero => omega
  | succ f =>
   refine ⟨fun h0 => ?_, fun i hi => ?_⟩
   ·exfalso
    match l, hl with
    | (i, o) :: r, _ =>
     have : i ∈ Region.ready .any c.ops L := by
      refine mem_ready.2 ⟨(hI.pend i).2 ⟨o, by simp⟩, o, by rw [← hRo]; exact hI.op i o (by simp), fun e he hb => ?_⟩
      exact hI.topo.1 e.on (j4.2 ⟨e, he, hb, rfl⟩)
     rw [h0] at this; simp at this
   ·obtain ⟨hun, o, ho, hall⟩ := mem_ready.1 hi
    obtain ⟨o', hmem⟩ := (hI.pend i).1 hun
    have : o' = o := by have := hI.op i o' hmem; rw [hRo, ho] at this; exact (Option.some.inj this).symm
    subst this
    obtain ⟨l1, l2, rfl⟩ := List.append_of_mem hmem
    have hpr : ∀ p ∈ dr o', L.getD p false = true := by
     intro p hp
     obtain ⟨e, he, hb, rfl⟩ := j4.1 hp
     exact hall e he hb
    obtain ⟨y, hy, _, hrun⟩ := RX.front hcong hR (fun e he => by
     cases hoe : o7 c.tab e.1 i with
     | false => rfl
     | true =>
      exfalso
      have hu : L.getD e.1 false = false := hI.unlisted (o := e.2) (by simp [he])
      rcases hT i e.1 o' (by rw [hRt]; exact hoe) (by rw [hRo]; exact ho) with h1 | ⟨p, hp, h1⟩
      ·rw [hpr _ h1] at hu; cases hu
      ·rw [hI.closed p e.1 (hpr p hp) h1] at hu; cases hu)
    have hs := hsound i o' x y ho hy F a w _ Q hC hrun
    have hwp : wpOp c.P c.ops Q i (fun a' w' => ∃ x', CC c.hi F x' H a' w' ∧ c.rr true K (l1 ++ l2) [] x') a w := by
     unfold wpOp
     rw [ho]
     exact hs
    refine wpOp_mono ?_ hwp
    rintro a' w' ⟨x', hC', hR'⟩
    refine ih (l := l1 ++ l2) ?_ (by omega) (hI.step hT hpr) hC' hR' hK
    simp only [List.length_append, List.length_cons] at hl ⊢; omega
theorem RX.ordered {c : RX} {H : Heap} (hsound : c.Sound H) {F : Own} {K : CS → Prop} {Q : Exit → Act → World → Prop} : ∀ (l : List (Nat × Oper)) {log : List vV} {x : CS} {a : Act} {w : World},
  (∀ e ∈ l, c.ops[e.1]? = some e.2) → CC c.hi F x H a w → c.rr false K l log x →
  (∀ x' a' w', CC c.hi F x' H a' w' → K x' → Q .normal a' w') → wpOps c.P c.ops Q (l.map (·.1)) a w
 | [], _, x, a, w, _, hC, hR, hK => hK x a w hC hR
 | (i, o) :: r, log, x, a, w, ho, hC, ⟨y, hy, _, hrun⟩, hK => by
  have hs := hsound i o x y (ho (i, o) (by simp)) hy F a w _ Q hC hrun
  rw [List.map_cons, wpOps_cons]
  have hwp : wpOp c.P c.ops Q i (fun a' w' => ∃ x', CC c.hi F x' H a' w' ∧ c.rr false K r log x') a w := by
   unfold wpOp
   rw [ho (i, o) (by simp)]
   exact hs
  refine wpOp_mono ?_ hwp
  rintro a' w' ⟨x', hC', hR'⟩
  exact RX.ordered hsound r (fun e he => ho e (by simp [he])) hC' hR' hK
def ki (P : Program) (N : Array Oper → Nat → Nat → Oper → CS → Option Ef) (ops : Array Oper) (draw : Bool) (x : CS) : G CS :=
 let l := aw 0 ops.toList
 let hi := x.s.next + ops.size
 let x' : CS := x.bump ops.size
 if draw then
  let l' := b6 ops.size 0 l
  if topo ops.size 0 l' then RX.reg ⟨P, ops, cq l' [], hi, N ops x.s.next⟩ true l' [] x' else .fail 3000
 else RX.reg ⟨P, ops, [], hi, N ops x.s.next⟩ false l [] x'
theorem CC.drew {hi : Nat} {F : Own} {x : CS} {H : Heap} {a : Act} {w : World} (h : CC hi F x H a w) (n : Nat) : CC hi F x H a { w with drawn := n } :=
 let ⟨⟨O, h1, h2⟩, h3, h4⟩ := h; ⟨⟨O, h1, h2.drew n⟩, h3, h4⟩
theorem pf {P : Program} (hm : P.follows .mixedOrders = true) {N : Array Oper → Nat → Nat → Oper → CS → Option Ef} {id : Nat} {ops : Array Oper} {draw : Bool} {x : CS}
  (hcong : ∀ base i o, ul (N ops base i o) (o.looksAt ops)) {H : Heap} (hsound : ∀ base tab, RX.Sound ⟨P, ops, tab, base + ops.size, N ops base⟩ H)
  {F : Own} {a : Act} {w : World} {K : CS → Prop} {Q : Exit → Act → World → Prop} (h : (ki P N ops draw x).den K) {hi : Nat} (hC : CC hi F x H a w)
  (hK : ∀ x' a' w', CC hi F x' H a' w' → K x' → Q .normal a' w') : (Code.region id ops draw).wp P Q a w := by
 have hC' : CC (x.s.next + ops.size) F { x with s := { x.s with next := x.s.next + ops.size } } H a w := by
  obtain ⟨⟨O, h1, h2⟩, h3, h4⟩ := hC
  exact ⟨⟨O, h1, h2.next _⟩, fun n hn => h3 n (by simp only at hn; omega), Nat.le_refl _⟩
 have hK' : ∀ x' a' w', CC (x.s.next + ops.size) F x' H a' w' → K x' → Q .normal a' w' := by
  intro x' a' w' h1 h2
  obtain ⟨h3, h4, h5⟩ := h1
  exact hK x' a' w' ⟨h3, h4, by have := hC.2.2; omega⟩ h2
 unfold ki at h
 simp only [CS.bump_eq] at h
 have hops : ∀ e ∈ aw 0 ops.toList, ops[e.1]? = some e.2 := by
  intro e he
  have := (fe he).2
  simpa using this
 cases draw with
 | true =>
  simp only [if_true] at h
  split at h
  ·rename_i ht
   have hR := RX.reg_den h
   obtain ⟨t1, t2, t3, t4⟩ := jQ ht
   have hop : ∀ i o, (i, o) ∈ b6 ops.size 0 (aw 0 ops.toList) → ops[i]? = some o := fun i o hi => hops (i, o) (gh hi)
   refine wp_region_any hm ?_
   refine RX.any (c := ⟨P, ops, cq (b6 ops.size 0 (aw 0 ops.toList)) [], x.s.next + ops.size, N ops x.s.next⟩) (hcong _) (hsound _ _)
    ⟨P, fun _ => false, fun _ => none, ops, cq (b6 ops.size 0 (aw 0 ops.toList)) [], [], 0⟩ rfl rfl ?_ (b6 ops.size 0 (aw 0 ops.toList)).length rfl ?_ ?_ (hC'.drew _) hR hK'
   ·intro i j o ho hi
    have hlt : i < ops.size := (Array.getElem?_eq_some_iff.1 hi).1
    obtain ⟨o', ho'⟩ := ((t1 i).1 hlt).resolve_left (by simp)
    have : o' = o := by have := hop i o' ho'; simp only [] at hi; rw [hi] at this; exact (Option.some.inj this).symm
    subst this
    exact (eX (tab := []) t2 (fun _ _ h => by simp [t3 _ _ h]) t4).2 i o' j ho' ho
   ·have := hU ops.size _ t2 (fun i hi => by
     obtain ⟨e, he, rfl⟩ := List.mem_map.1 hi
     exact (t1 e.1).2 (.inr ⟨e.2, he⟩))
    simpa using this
   ·refine ⟨by simp, fun i => ?_, hop, t2, t4.mono (by simp), fun i j hi => ?_⟩
    ·rw [show ((Array.replicate ops.size false).getD i true = false) ↔ i < ops.size by
      by_cases hlt : i < ops.size <;> simp [Array.getD, hlt]]
     rw [t1]; simp
    ·exfalso
     by_cases hlt : i < ops.size <;> simp [Array.getD, hlt] at hi
  ·exact h.elim
 | false =>
  simp only [Bool.false_eq_true, if_false] at h
  have hR := RX.reg_den h
  refine wp_region ?_
  have := RX.ordered (c := ⟨P, ops, [], x.s.next + ops.size, N ops x.s.next⟩) (Q := Q) (hsound _ _) (aw 0 ops.toList) hops hC' hR hK'
  rw [ff] at this
  rw [List.range_eq_range']
  simpa using this
end
noncomputable section
variable {P : Program}
def Fe : Value → Bool
 | .int _ _ | .bool _ | .string _ | .nilFunc | .nilIface => true
 | .pointer none | .slice none _ _ | .map none => true
 | _ => false
def qN : At → At
 | .v x => if Fe x then .k x else .v x
 | a => a
def qL : S1 → S1
 | .at a => .at (qN a)
 | .agg l => .agg (l.map qN)
def du : SV → SV
 | .s x => .s (qL x)
 | .tup l => .tup (l.map qL)
 | .opt gl x => .opt gl (qL x)
theorem j0 (a : At) : (qN a).den = a.den := by
 cases a <;> simp only [qN]
 split <;> rfl
theorem qM {a : At} (h : a.ok) : (qN a).ok := by
 cases a <;> simp only [qN] <;> first | exact h | skip
 split
 ·trivial
 ·exact h
theorem nG (x : S1) : (qL x).den = x.den := by
 rcases x with a | l
 ·exact j0 a
 ·simp only [qL, S1.den, List.map_map, Function.comp_def, j0]
theorem qK {x : S1} (h : x.ok) : (qL x).ok := by
 rcases x with a | l
 ·exact cM (qM (h a (by simp [S1.cells])))
 ·intro a ha
  simp only [qL, S1.cells, List.mem_map] at ha
  obtain ⟨b, hb, rfl⟩ := ha
  exact qM (h b (by simpa [S1.cells] using hb))
theorem qJ {x : SV} (h : x.ok) : (du x).ok := by
 cases x with
 | s x => exact qK h
 | tup l =>
  intro y hy
  obtain ⟨z, hz, rfl⟩ := List.mem_map.1 hy
  exact qK (h z hz)
 | opt gl x => exact qK h
theorem nF {x : SV} {v : Value} (h : x.rel v) : (du x).rel v := by
 cases x with
 | s x =>
  rcases x with a | l
  ·have hd := j0 a
   cases a <;> simp only [du, qL, qN] at hd ⊢ <;> first | exact h | skip
   split
   ·exact h
   ·exact h
  ·have : v = (S1.agg l).den := h
   show v = (qL (.agg l)).den
   rw [nG]; exact this
 | tup l =>
  simp only [du, SV.rel, List.map_map, Function.comp_def, nG]
  exact h
 | opt gl x =>
  simp only [du, SV.rel, nG]
  exact h
def vq (P : Program) (t : TypeId) (cs : Array Value) (off : Nat) : Option Value :=
 (eP P t).bind fun m => if bT P t then some (.agg (cs.extract off (off + m))) else cs[off]?
theorem fJ {t : TypeId} {cs : Array Value} {off : Nat} {v : Value} (h : vq P t cs off = some v) (w : World) : (part t cs off).run P w = .ok v w := by
 simp only [vq, Option.bind_eq_some_iff] at h
 obtain ⟨m, hm, h⟩ := h
 unfold part
 rw [Sem.run_bind, iM hm]
 simp only [Result.andThen_ok]
 split at h
 ·rename_i hA
  simp only [Option.some.injEq] at h
  subst h
  rw [if_pos hA, Sem.run_bind, aE hm]
  rfl
 ·rename_i hA
  rw [if_neg hA, h]
  rfl
def E2 (eq : TypeId → Value → Value → Option Bool) (P : Program) (xs ys : Array Value) : List Field → Option Bool
 | [] => some true
 | f :: fs =>
  if f.name = "_" then E2 eq P xs ys fs else
  match vq P f.type xs f.offset, vq P f.type ys f.offset with
  | some a, some b => match eq f.type a b with
   | some true => E2 eq P xs ys fs
   | some false => some false
   | none => none
  | _, _ => none
def xM (eq : TypeId → Value → Value → Option Bool) (P : Program) (t : TypeId) (n : Nat) (xs ys : Array Value) : List Nat → Option Bool
 | [] => some true
 | i :: r =>
  match vq P t xs (i * n), vq P t ys (i * n) with
  | some a, some b => match eq t a b with
   | some true => xM eq P t n xs ys r
   | some false => some false
   | none => none
  | _, _ => none
def eqC (P : Program) : Nat → TypeId → Value → Value → Option Bool
 | 0, _, _, _ => none
 | d + 1, t, x, y =>
  match P.underlying t, x, y with
  | some .bool, .bool a, .bool b => some (a == b)
  | some (.int _), .int k a, .int k' b => if k = k' then some (a == b) else none
  | some .string, .string a, .string b => some (a.toList == b.toList)
  | some (.struct fs), .agg xs, .agg ys => if P.stoodInHeld t then none else E2 (eqC P d) P xs ys fs.toList
  | some (.array len elem), .agg xs, .agg ys => (eP P elem).bind fun n => xM (eqC P d) P elem n xs ys (List.range' 0 len)
  | _, _, _ => none
theorem q8 {d : Nat} (ih : ∀ t x y b, eqC P d t x y = some b → ∀ m w, (Op.equalIn (d + m) t x y).run P w = .ok b w) {xs ys : Array Value} (m : Nat) (w : World) : ∀ (fs : List Field) (b : Bool),
  E2 (eqC P d) P xs ys fs = some b → (Op.eqFields (d + m) xs ys fs).run P w = .ok b w
 | [], b, h => by simp only [E2, Option.some.injEq] at h; subst h; rfl
 | f :: fs, b, h => by
  simp only [E2] at h
  simp only [Op.eqFields]
  split at h
  ·rename_i hn; rw [if_neg (by simpa using hn)]; exact q8 ih m w fs b h
  ·rename_i hn
   rw [if_pos hn]
   split at h
   ·rename_i va vb ha hb
    simp only [Sem.run_bind, fJ ha, fJ hb, Result.andThen_ok]
    split at h
    ·rename_i he
     rw [ih _ _ _ _ he]
     simp only [Result.andThen_ok, Bool.not_true, Bool.false_eq_true, if_false]
     exact q8 ih m w fs b h
    ·rename_i he
     simp only [Option.some.injEq] at h
     subst h
     rw [ih _ _ _ _ he]
     simp only [Result.andThen_ok, Bool.not_false, if_true, Sem.run_pure]
    ·simp at h
   ·simp at h
theorem oh : ∀ (d : Nat) (t : TypeId) (x y : Value) (b : Bool), eqC P d t x y = some b → ∀ m w, (Op.equalIn (d + m) t x y).run P w = .ok b w
  | 0, t, x, y, b, h => by simp [eqC] at h
  | d + 1, t, x, y, b, h => by
    intro m w
    rw [show d + 1 + m = (d + m) + 1 by omega]
    unfold eqC at h
    split at h
    · rename_i u a b' hu
      simp only [Option.some.injEq] at h; subst h
      exact run_equalIn_bool' w _ _ _ _ hu
    · rename_i u k' k a k2 b' hu
      split at h
      · rename_i e
        simp only [Option.some.injEq] at h; subst h; subst e
        exact run_equalIn_int w _ _ _ _ _ _ hu
      · simp at h
    · rename_i u a b' hu
      simp only [Option.some.injEq] at h; subst h
      exact run_equalIn_string w _ _ _ _ hu
    · rename_i u fs xs ys hu
      split at h
      · simp at h
      · rename_i hs
        have hf : P.fieldsOf t = fs := by unfold Program.fieldsOf; rw [hu]
        rw [run_equalIn_struct w _ _ _ _ (by rw [hf]; exact hu) (by simpa using hs), hf]
        exact q8 (oh d) m w _ _ h
    · rename_i u len elem xs ys hu
      simp only [Option.bind_eq_some_iff] at h
      obtain ⟨n, hn, h⟩ := h
      have key : ∀ (l : List Nat) (b : Bool), xM (eqC P d) P elem n xs ys l = some b →
          ((do
            let r ← forIn l ((none, ()) : Option Bool × Unit) fun i _ => do
              if !(← Op.equalIn (d + m) elem (← part elem xs (i * n)) (← part elem ys (i * n))) then pure (.done (some false, ())) else pure (.yield (none, ()))
            match r.fst with
            | some a => pure a
            | none => pure true) : Sem Bool).run P w = .ok b w := by
        intro l
        induction l with
        | nil => intro b h; simp only [xM, Option.some.injEq] at h; subst h; rfl
        | cons i r ih =>
          intro b h
          simp only [xM] at h
          split at h
          · rename_i va vb ha hb
            split at h
            · rename_i he
              have := ih b h
              simp only [List.forIn_cons, Sem.run_bind, fJ ha, fJ hb, Result.andThen_ok, oh d _ _ _ _ he, Bool.not_true, Bool.false_eq_true, if_false, Sem.run_pure] at this ⊢
              exact this
            · rename_i he
              simp only [Option.some.injEq] at h
              subst h
              simp only [List.forIn_cons, Sem.run_bind, fJ ha, fJ hb, Result.andThen_ok, oh d _ _ _ _ he, Bool.not_false, if_true, Sem.run_pure]
            · simp at h
          · simp at h
      simp only [Op.equalIn, Sem.run_bind, run_underlying hu, Result.andThen_ok, aE hn]
      have := key _ _ h
      simp only [Sem.run_bind] at this
      simp only [Std.Legacy.Range.forIn_eq_forIn_range', Std.Legacy.Range.size]
      simp at this ⊢
      refine Eq.trans ?_ this
      congr 1
      funext a w'
      obtain ⟨a, _⟩ := a
      cases a <;> rfl
    · simp at h
def Gk (P : Program) (op : PrimOp) (args : List Value) : Option Value :=
 match op, args with
 | .eqv .eql t _, [.agg a, .agg b] => if P.eqGuardType P.depth t then none else (eqC P 100 t (.agg a) (.agg b)).map .bool
 | .eqv .neq t _, [.agg a, .agg b] => if P.eqGuardType P.depth t then none else (eqC P 100 t (.agg a) (.agg b)).map fun b => .bool (!b)
 | _, _ => none
theorem uA {op : PrimOp} {args : List Value} {v : Value} (h : Gk P op args = some v) (w : World) : (op.sem args).run P w = .ok (.value v) w ∧ v.oneCell' = true := by
 unfold Gk at h
 split at h
 ·rename_i t c a b
  split at h
  ·simp at h
  ·rename_i hg
   simp only [Option.map_eq_some_iff] at h
   obtain ⟨r, hr, rfl⟩ := h
   refine ⟨?_, rfl⟩
   simp only [PrimOp.sem, Sem.run_bind, run_eqGuard_agg w _ _ _ _ _ _ (by simpa using hg), Result.andThen_ok, run_eql_struct, oh 100 _ _ _ _ hr 9900 w, Sem.run_pure]
 ·rename_i t c a b
  split at h
  ·simp at h
  ·rename_i hg
   simp only [Option.map_eq_some_iff] at h
   obtain ⟨r, hr, rfl⟩ := h
   refine ⟨?_, rfl⟩
   simp only [PrimOp.sem, Sem.run_bind, run_eqGuard_agg w _ _ _ _ _ _ (by simpa using hg), Result.andThen_ok, run_neq_struct, oh 100 _ _ _ _ hr 9900 w, Sem.run_pure]
 ·simp at h
end
noncomputable section
variable {P : Program}
theorem qp {ops : Array Oper} {Q : Exit → Act → World → Prop} {o : Oper} {K K' : Act → World → Prop} {a : Act} {w : World} (h : ∀ a w, K a w → K' a w) (hh : wp1 P ops Q o K a w) : wp1 P ops Q o K' a w := by
 unfold wp1 at *
 split
 ·rename_i hc
  rw [if_pos hc] at hh
  rcases hh with hh | hh
  ·exact .inl (Oper.wp_mono h hh)
  ·exact .inr hh
 ·rename_i hc
  rw [if_neg hc] at hh
  exact h _ _ hh
abbrev Bw := Nat → Option (List Value)
def GlobOk (gl : Bw) (H : Heap) : Prop := ∀ g cs, gl g = some cs → Ones cs ∧ ∀ off m, off + m ≤ cs.length → H.read (.pointer (some ⟨g, off, none⟩)) m = some ((cs.drop off).take m)
theorem GlobOk.le {gl : Bw} {H H' : Heap} (h : GlobOk gl H) (hl : Heap.le H H') : GlobOk gl H' := fun g cs hg => ⟨(h g cs hg).1, fun off m hle => hl.read ((h g cs hg).2 off m hle)⟩
def uO (gl : Bw) (p : Value) (m : Nat) : Option (List Value) :=
 match p with
 | .pointer (some ⟨g, off, none⟩) => (gl g).bind fun cs => if off + m ≤ cs.length then some ((cs.drop off).take m) else none
 | _ => none
def En (P : Program) (glob : Bw) (x : NF) (fp : FP) : Option Ef :=
 match x with
 | .fl cs k X =>
  let q (vs : List Value) : Option Ef := some ⟨cs, .done ⟨some (du (X vs)), [], none⟩, fp.reads, [], none⟩
  match k with
  | .sil => q []
  | .pure gd op args => match af op args with
   | some v => if gd.isEmpty || v.oneCell' then q [v] else none
   | none => none
  | .raw _ op args => match Gk P op args with
   | some v => q [v]
   | none => none
  | .split c => match c with
   | .bool b => q [.bool b]
   | _ => none
  | .isplit c n => match c with
   | .int _ i => if 0 ≤ i ∧ i < n then q [.int .i64 i] else none
   | _ => none
  | .load _ p m => match uO glob p m with
   | some vs => q vs
   | none => none
 | .box cs n T cells val => some ⟨cs, .box fun r => .done ⟨some (.s (.at (val r))), [(n, some ⟨r, T, cells⟩)], none⟩, fp.reads, [n], none⟩
 | .stb cs n b => some ⟨cs, .done ⟨none, [(n, some b)], none⟩, fp.reads, [n], none⟩
 | _ => none
theorem xb {glob : Bw} {x : NF} {fp : FP} {e : Ef} (h : En P glob x fp = some e) : e.lo = none ∧ e.rd = fp.reads := by
 unfold En at h
 split at h
 ·simp only at h
  split at h
  ·simp only [Option.some.injEq] at h; subst h; exact ⟨rfl, rfl⟩
  ·split at h
   ·split at h
    ·simp only [Option.some.injEq] at h; subst h; exact ⟨rfl, rfl⟩
    ·simp at h
   ·simp at h
  ·split at h
   ·simp only [Option.some.injEq] at h; subst h; exact ⟨rfl, rfl⟩
   ·simp at h
  ·split at h
   ·simp only [Option.some.injEq] at h; subst h; exact ⟨rfl, rfl⟩
   ·simp at h
  ·split at h
   ·split at h
    ·simp only [Option.some.injEq] at h; subst h; exact ⟨rfl, rfl⟩
    ·simp at h
   ·simp at h
  ·split at h
   ·simp only [Option.some.injEq] at h; subst h; exact ⟨rfl, rfl⟩
   ·simp at h
 ·simp only [Option.some.injEq] at h; subst h; exact ⟨rfl, rfl⟩
 ·simp only [Option.some.injEq] at h; subst h; exact ⟨rfl, rfl⟩
 ·simp at h
theorem Conc.tmps {F : Own} {s s' : SS} {H : Heap} {O : Own} {a : Act} {w : World} (h : Conc F s H O a w) (hz : s'.sz = s.sz) (hm : s'.mem = s.mem) (ht : ∀ t, (s'.tmps t) = s.tmps t ∨ s'.tmps t = du (s.tmps t)) :
  Conc F s' H O a w := by
 refine ⟨⟨fun t => ?_, fun n b hb => h.ok.2 n b (by rw [← hm]; exact hb)⟩, h.df, by rw [hz]; exact h.sz, fun t => ?_, by rw [hm]; exact h.mm⟩
 ·rcases ht t with e | e
  ·rw [e]; exact h.ok.1 t
  ·rw [e]; exact qJ (h.ok.1 t)
 ·rcases ht t with e | e
  ·rw [e]; exact h.tm t
  ·rw [e]; exact nF (h.tm t)
theorem nQ {ops : Array Oper} {okf : FuncId → Bool} {rules : FuncId → Option (List Nat)} (hokf : ∀ f, okf f = true → gU P f) {sp : Bool} {name : Nat} {glob : Bw} {o : Oper} {x : CS} {y : NF} {fp : FP} {e : Ef}
  (hy : nf P okf rules (aJ ops) sp name o x.s = some (y, fp)) (he : En P glob y fp = some e) {hi : Nat} {F : Own} {H : Heap} (hgl : GlobOk glob H) {a : Act} {w : World} {K : CS → Prop} {Q : Exit → Act → World → Prop}
  (hC : CC hi F x H a w) (hr : e.run hi o.dst x K) : wp1 P ops Q o (fun a' w' => ∃ x', CC hi F x' H a' w' ∧ K x') a w := by
 obtain ⟨⟨O, hM, hc⟩, hf, hn⟩ := hC
 have o5 : ∀ sv : SV, K (x.app o.dst ⟨some (du sv), [], none⟩) → ∀ (H' : Heap) (O' : Own) (a' : Act) (w' : World), H' = H → O' = O → Conc F (x.s.set o.dst sv) H' O' a' w' →
   ∃ x', CC hi F x' H a' w' ∧ K x' := by
  intro sv hk H' O' a' w' hH hO hc'
  subst hH; subst hO
  refine ⟨x.app o.dst ⟨some (du sv), [], none⟩, ⟨⟨O', hM, hc'.tmps ?_ ?_ (fun t => ?_)⟩, hf, hn⟩, hk⟩
  ·cases o.dst <;> rfl
  ·cases o.dst <;> rfl
  ·cases hd : o.dst with
   | none => exact .inl rfl
   | some d =>
    by_cases e : t = d
    ·right; subst e; simp [CS.app, o6, SS.set]
    ·left; simp [CS.app, o6, SS.set, e]
 have go : ∀ (vs : List Value) (cs : List Ck) (k : FK) (X : List Value → SV), y = .fl cs k X → AllCk cs → k.pre P H O vs → K (x.app o.dst ⟨some (du (X vs)), [], none⟩) →
   wp1 P ops Q o (fun a' w' => ∃ x', CC hi F x' H a' w' ∧ K x') a w := by
  intro vs cs k X hyx hcs hp hk
  have hs := j1 hokf hy F H O a w false (fun s' H' O' => s' = x.s.set o.dst (X vs) ∧ H' = H ∧ O' = O) Q hc (by subst hyx; exact ⟨hcs, vs, hp, rfl, rfl, rfl⟩)
  refine qp ?_ hs
  rintro a' w' ⟨s', H', O', hc', _, rfl, hH, hO⟩
  exact o5 _ hk H' O' a' w' hH hO hc'
 obtain ⟨hcs, hr⟩ := hr
 unfold En at he
 split at he
 ·rename_i cs k X
  simp only at he
  split at he
  ·simp only [Option.some.injEq] at he; subst he
   exact go [] cs _ X rfl hcs rfl hr.2
  ·rename_i gd op args
   split at he
   ·rename_i v hv
    split at he
    ·rename_i hcond
     simp only [Option.some.injEq] at he; subst he
     refine go [v] cs _ X rfl hcs ⟨v, rfl, fun _ => hv, ?_⟩ hr.2
     simpa using hcond
    ·simp at he
   ·simp at he
  ·rename_i gd op args
   split at he
   ·rename_i v hv
    simp only [Option.some.injEq] at he; subst he
    exact go [v] cs _ X rfl hcs ⟨v, rfl, fun _ w' => (uA hv w').1, (uA hv default).2⟩ hr.2
   ·simp at he
  ·rename_i c
   split at he
   ·rename_i b
    simp only [Option.some.injEq] at he; subst he
    exact go [.bool b] cs _ X rfl hcs ⟨b, rfl, rfl⟩ hr.2
   ·simp at he
  ·rename_i c n
   split at he
   ·rename_i kd i
    split at he
    ·rename_i hb
     simp only [Option.some.injEq] at he; subst he
     exact go [.int .i64 i] cs _ X rfl hcs ⟨kd, i, rfl, hb.1, hb.2, rfl⟩ hr.2
    ·simp at he
   ·simp at he
  ·rename_i gd p m
   split at he
   ·rename_i vs hv
    simp only [Option.some.injEq] at he; subst he
    refine go vs cs _ X rfl hcs ?_ hr.2
    unfold uO at hv
    split at hv
    ·rename_i g off
     simp only [Option.bind_eq_some_iff] at hv
     obtain ⟨cells, hg, hv⟩ := hv
     split at hv
     ·rename_i hle
      simp only [Option.some.injEq] at hv
      subst hv
      obtain ⟨h1, h2⟩ := hgl g cells hg
      exact ⟨by simp; omega, (h1.drop off).take m, fun _ => .inl (h2 off m hle)⟩
     ·simp at hv
    ·simp at hv
   ·simp at he
 ·rename_i cs n T cells val
  simp only [Option.some.injEq] at he; subst he
  have hs := j1 hokf hy F H O a w false (fun s' H' O' => ∃ r, s' = (x.s.setBox n (some ⟨r, T, cells⟩)).set o.dst (.s (.at (val r))) ∧ H' = H ∧ O' = O) Q hc ⟨hcs, fun r => ⟨r, rfl, rfl, rfl⟩⟩
  refine qp ?_ hs
  rintro a' w' ⟨s', H', O', hc', _, r, rfl, rfl, rfl⟩
  obtain ⟨hok, hk⟩ := hr r
  have hlt : n < hi := by
   simp only [okU, Bool.and_eq_true, List.all_eq_true, decide_eq_true_eq] at hok
   exact hok.2 n (by simp)
  refine ⟨x.app o.dst ⟨some (.s (.at (val r))), [(n, some ⟨r, T, cells⟩)], none⟩, ⟨⟨O', hM, hc'.tmps ?_ ?_ (fun t => .inl ?_)⟩, fun m hm => ?_, hn⟩, hk⟩
  ·cases o.dst <;> rfl
  ·funext m
   rw [CS.app_mem]
   cases o.dst <;> simp only [aO, SS.set, SS.setBox] <;> by_cases e : m = n <;> simp [e]
  ·cases o.dst <;> simp [CS.app, o6, SS.set, SS.setBox]
  ·have hm' : x.s.next ≤ m := hm
   rw [CS.app_mem' (fun p hp => by simp only [List.mem_singleton] at hp; subst hp; simp only; omega)]
   exact hf m hm'
 ·rename_i cs n b
  simp only [Option.some.injEq] at he; subst he
  have hs := j1 hokf hy F H O a w false (fun s' H' O' => s' = x.s.setBox n (some b) ∧ H' = H ∧ O' = O) Q hc ⟨hcs, rfl, rfl, rfl⟩
  refine qp ?_ hs
  rintro a' w' ⟨s', H', O', hc', _, rfl, rfl, rfl⟩
  obtain ⟨hok, hk⟩ := hr
  have hlt : n < hi := by
   simp only [okU, Bool.and_eq_true, List.all_eq_true, decide_eq_true_eq] at hok
   exact hok.2 n (by simp)
  refine ⟨x.app o.dst ⟨none, [(n, some b)], none⟩, ⟨⟨O', hM, hc'.tmps ?_ ?_ (fun t => .inl ?_)⟩, fun m hm => ?_, hn⟩, hk⟩
  ·rfl
  ·funext m
   rw [CS.app_mem]
   simp only [aO, SS.setBox]; by_cases e : m = n <;> simp [e]
  ·cases o.dst <;> simp [CS.app, o6, SS.setBox]
  ·have hm' : x.s.next ≤ m := hm
   rw [CS.app_mem' (fun p hp => by simp only [List.mem_singleton] at hp; subst hp; simp only; omega)]
   exact hf m hm'
 ·simp at he
end
noncomputable section
variable {P : Program}
inductive Out where
 | nrm (x : CS)
 | ext (j : Nat) (x : CS)
 | ret (x : CS)
def Out.cs : Out → CS
 | .nrm x | .ext _ x | .ret x => x
def Out.exit : Out → Exit
 | .nrm _ => .normal
 | .ext j _ => .exit j
 | .ret _ => .ret
def tO (f : CS → G Out) : Nat → CS → G Out
 | 0, _ => .fail 903
 | n + 1, x => (f x).bind fun o => match o with
  | .nrm x' => tO f n x'
  | o => .done o
abbrev NF1 := Array Oper → Nat → Nat → Oper → CS → Option Ef
def fV (P : Program) (N : NF1) (n : Nat) : Code → CS → G Out
 | .skip, x => .done (.nrm x)
 | .label _, x => .done (.nrm x)
 | .region _ ops draw, x => (ki P N ops draw x).bind fun x' => .done (.nrm x')
 | .seq a b, x => (fV P N n a x).bind fun o => match o with
  | .nrm x' => fV P N n b x'
  | o => .done o
 | .cond c a b, x => match dh x.s [] c with
  | some (.k (.bool true), _) => fV P N n a x
  | some (.k (.bool false), _) => fV P N n b x
  | _ => .fail 904
 | .block id b, x => (fV P N n b x).bind fun o => match o with
  | .ext j x' => if j = id then .done (.nrm x') else .done (.ext j x')
  | o => .done o
 | .exit id, x => .done (.ext id x)
 | .ret, x => .done (.ret x)
 | .loop b, x => tO (fV P N n b) n x
 | .scope b, x => fV P N n b x
 | _, _ => .fail 907
structure NOk (P : Program) (N : NF1) (H : Heap) : Prop where
 cong : ∀ ops base i o, ul (N ops base i o) (o.looksAt ops)
 sound : ∀ ops base tab, RX.Sound ⟨P, ops, tab, base + ops.size, N ops base⟩ H
theorem AD (hm : P.follows .mixedOrders = true) {N : NF1} {H : Heap} (hN : NOk P N H) {n : Nat} {hi : Nat} {F : Own} : ∀ (c : Code) {x : CS} {K : Out → Prop} {a : Act} {w : World} {Q : Exit → Act → World → Prop},
  (fV P N n c x).den K → CC hi F x H a w → (∀ o a' w', CC hi F o.cs H a' w' → K o → Q o.exit a' w') → c.wp P Q a w := by
 intro c
 induction c with
 | skip => intro x K a w Q h hC hQ; exact wp_skip (hQ (.nrm x) _ _ hC h)
 | label l => intro x K a w Q h hC hQ; exact wp_label (hQ (.nrm x) _ _ hC h)
 | region id ops draw =>
  intro x K a w Q h hC hQ
  exact pf hm (hN.cong ops) (hN.sound ops) (G.den_bind h) hC (fun x' a' w' h1 h2 => hQ (.nrm x') a' w' h1 h2)
 | seq c d ihc ihd =>
  intro x K a w Q h hC hQ
  refine wp_seq (ihc (G.den_bind h) hC ?_)
  intro o a' w' hC' hk
  cases o with
  | nrm x' => exact ihd hk hC' hQ
  | ext j x' => exact hQ (.ext j x') a' w' hC' hk
  | ret x' => exact hQ (.ret x') a' w' hC' hk
 | cond c d e ihd ihe =>
  intro x K a w Q h hC hQ
  simp only [fV] at h
  have hden : ∀ v cs, dh x.s [] c = some (v, cs) → a.eval c = v.den := fun v cs he => by
   have := jY he; subst this
   obtain ⟨⟨O, _, hc⟩, _⟩ := hC
   exact ay hc he trivial trivial
  split at h
  ·rename_i cs he; exact wp_cond_true (hden _ _ he) (ihd h hC hQ)
  ·rename_i cs he; exact wp_cond_false (hden _ _ he) (ihe h hC hQ)
  ·exact h.elim
 | block id b ih =>
  intro x K a w Q h hC hQ
  refine wp_block (ih (G.den_bind h) hC ?_)
  intro o a' w' hC' hk
  cases o with
  | nrm x' => exact hQ (.nrm x') a' w' hC' hk
  | ext j x' =>
   simp only at hk
   show Exit.inBlock id Q (.exit j) a' w'
   split at hk
   ·rename_i e
    subst e
    simp only [Exit.inBlock, if_true]
    exact hQ (.nrm x') a' w' hC' hk
   ·rename_i e
    simp only [Exit.inBlock, if_neg e]
    exact hQ (.ext j x') a' w' hC' hk
  | ret x' => exact hQ (.ret x') a' w' hC' hk
 | exit id => intro x K a w Q h hC hQ; exact wp_exit (hQ (.ext id x) _ _ hC h)
 | ret => intro x K a w Q h hC hQ; exact wp_ret (hQ (.ret x) _ _ hC h)
 | loop b ih =>
  intro x K a w Q h hC hQ
  refine f6 (G := Nat × CS) (fun g a w => CC hi F g.2 H a w ∧ (tO (fV P N n b) g.1 g.2).den K) (fun g => g.1) (g0 := (n, x)) ⟨hC, h⟩ ?_
  rintro ⟨m, x1⟩ a1 w1 ⟨hC1, hd1⟩
  cases m with
  | zero => exact hd1.elim
  | succ m =>
   refine ih (G.den_bind hd1) hC1 ?_
   intro o a' w' hC' hk
   cases o with
   | nrm x' => exact ⟨(m, x'), ⟨hC', hk⟩, Nat.lt_succ_self m⟩
   | ext j x' => exact hQ (.ext j x') a' w' hC' hk
   | ret x' => exact hQ (.ret x') a' w' hC' hk
 | scope b ih =>
  intro x K a w Q h hC hQ
  refine wp_scope_straight (ih h hC ?_)
  intro o a' w' hC' hk
  cases o with
  | nrm x' => exact hQ (.nrm x') a' w' hC' hk
  | ext j x' => exact hQ (.ext j x') a' w' hC' hk
  | ret x' => exact hQ (.ret x') a' w' hC' hk
 | _ => intro x K a w Q h; exact h.elim
def uL (l : List (Nat × Nat × Nat)) (n : Nat) : Option (Nat × Nat) :=
 match l with
 | [] => none
 | (k, a) :: r => if n = k then some a else uL r n
def xR (np : Nat) (gr : List (Nat × Nat × Nat)) (n : Nat) (b : Bx) : List At :=
 match Nat.testBit np b.T with
 | true => []
 | false => match uL gr n with
  | some k => b.cs.take k.1
  | none => b.cs
def cellsOf (np : Nat) (x : CS) (n : Nat) : List At :=
 match x.s.mem n with
 | some b => xR np x.h.gr n b
 | none => []
def GA (n : Nat) (acc : List Nat) : List Nat :=
 List.rec (motive := fun _ => List Nat → List Nat) (fun all => n :: all) (fun m _ ih all => Bool.rec (motive := fun _ => List Nat) (ih all) all (Nat.beq n m)) acc acc
def FB (c : Cp) : List Nat → List Nat := Cp.rec (motive := fun _ => List Nat → List Nat) (fun n _ _ acc => GA n acc) (fun _ acc => acc) c
def FC (a : At) : List Nat → List Nat :=
 At.rec (motive := fun _ => List Nat → List Nat) (fun acc => acc) (fun _ acc => acc) (fun _ acc => acc) (fun _ _ acc => acc) (fun n _ _ acc => GA n acc) (fun n _ _ _ _ acc => GA n acc)
  (fun _ cs acc => List.rec (motive := fun _ => List Nat → List Nat) (fun acc => acc) (fun c _ ih acc => ih (FB c acc)) cs acc) (fun _ _ acc => acc) a
def cJ (l : List At) (acc : List Nat) : List Nat := List.rec (motive := fun _ => List Nat → List Nat) (fun acc => acc) (fun a _ ih acc => ih (FC a acc)) l acc
def cz (np : Nat) (x : CS) : Nat → List Nat → List Nat → List Nat
 | 0, _, acc => acc
 | _, [], acc => acc
 | k + 1, n :: r, acc => if acc.contains n then cz np x k r acc else cz np x k (cJ (cellsOf np x n) r) (n :: acc)
theorem li {np : Nat} {x : CS} : ∀ (k : Nat) (r acc : List Nat), ∀ n ∈ acc, n ∈ cz np x k r acc
 | 0, _, _, _, h => by simpa [cz] using h
 | _ + 1, [], _, _, h => by simpa [cz] using h
 | k + 1, m :: r, acc, n, h => by
  simp only [cz]
  split
  ·exact li k r acc n h
  ·exact li k _ _ n (by simp [h])
theorem hD {np : Nat} {x x' : CS} (hh : x'.h = x.h) : ∀ (k : Nat) (r acc : List Nat), (∀ n ∈ cz np x k r acc, x'.s.mem n = x.s.mem n) → cz np x' k r acc = cz np x k r acc
 | 0, _, _, _ => by simp [cz]
 | _ + 1, [], _, _ => by simp [cz]
 | k + 1, m :: r, acc, h => by
  simp only [cz] at h ⊢
  by_cases hc : acc.contains m = true
  ·rw [if_pos hc] at h
   rw [if_pos hc, if_pos hc]
   exact hD hh k _ _ h
  ·rw [if_neg hc] at h
   rw [if_neg hc, if_neg hc]
   have hm : x'.s.mem m = x.s.mem m := h m (li k _ _ m (by simp))
   have hcell : cellsOf np x' m = cellsOf np x m := by simp only [cellsOf, hm, hh]
   rw [hcell]
   exact hD hh k _ _ h
def FD (n : Nat) (l : List (Nat × Option Bx)) : Bool :=
 List.rec (motive := fun _ => Bool) false (fun p _ ih => Bool.rec (motive := fun _ => Bool) ih true (Nat.beq n p.1)) l
theorem xh (n : Nat) (p : Nat × Option Bx) (r : List (Nat × Option Bx)) : FD n (p :: r) = Bool.rec (motive := fun _ => Bool) (FD n r) true (Nat.beq n p.1) := rfl
theorem tM (n : Nat) : ∀ l : List (Nat × Option Bx), FD n l = (l.map Prod.fst).contains n
 | [] => rfl
 | p :: r => by
  rw [xh, tM n r, List.map_cons, List.contains_cons]
  cases h : Nat.beq n p.1 with
  | true => simp [Nat.eq_of_beq_eq_true h]
  | false =>
   have : ¬ n = p.1 := fun e => by rw [e] at h; simp at h
   simp [this]
def ja (np : Nat) (x : CS) : Nat → List Nat → List (Nat × Option Bx) → List (Nat × Option Bx)
 | 0, _, acc => acc
 | _, [], acc => acc
 | k + 1, n :: r, acc => match FD n acc with
  | true => ja np x k r acc
  | false => match x.s.mem n with
   | some b => ja np x k (cJ (xR np x.h.gr n b) r) ((n, some b) :: acc)
   | none => ja np x k (cJ [] r) ((n, none) :: acc)
theorem nm (np : Nat) (x : CS) : ∀ (k : Nat) (r acc : List Nat), ja np x k r (acc.map fun m => (m, x.s.mem m)) = (cz np x k r acc).map fun m => (m, x.s.mem m)
 | 0, _, acc => by simp only [ja, cz]
 | k + 1, [], acc => by simp only [ja, cz]
 | k + 1, n :: r, acc => by
  have hk : ((acc.map fun m => (m, x.s.mem m)).map Prod.fst) = acc := by
   rw [List.map_map]
   exact (List.map_congr_left fun m _ => rfl).trans (List.map_id acc)
  simp only [ja, cz, tM, hk]
  cases hc : acc.contains n with
  | true => simp only [if_true]; exact nm np x k r acc
  | false =>
   simp only [Bool.false_eq_true, if_false, cellsOf]
   have h1 := nm np x k (cJ (match x.s.mem n with | some b => xR np x.h.gr n b | none => []) r) (n :: acc)
   rw [List.map_cons] at h1
   cases hm : x.s.mem n with
   | none => rw [hm] at h1; exact h1
   | some b => rw [hm] at h1; exact h1
theorem vj (np : Nat) (x : CS) (k : Nat) (r : List Nat) : ja np x k r [] = (cz np x k r []).map fun m => (m, x.s.mem m) := nm np x k r []
theorem xH {f : Nat → Option Bx} (l : List Nat) : (l.map fun m => (m, f m)).map Prod.fst = l := by
 rw [List.map_map]
 exact (List.map_congr_left fun m _ => rfl).trans (List.map_id l)
def to : SV → List At
 | .s x => x.cells
 | .tup l => l.flatMap S1.cells
 | .opt _ x => x.cells
def E9 : List S1 → SV
 | [v] => .s v
 | l => .tup l
def AG : Cp → S1
 | .b n r off => .at (.p n r off)
 | .v x => .at (qN (.v x))
def Ix : Cp → Bool
 | .b .. => true
 | .v x => x.oneCell'
abbrev dj := FuncId → List S1 → List (Nat × Option Bx) → Nat → HS → G (SV × CS)
def gz (fn : Func) (args : List S1) (mem : List (Nat × Option Bx)) (next : Nat) (h : HS) : CS :=
 ⟨{ sz := fn.ntmps, tmps := fun t => match args[t]? with | some x => .s x | none => .s (.at (.k undef)), mem := fun n => (aO mem n).getD none, next := next }, h⟩
def yv (P : Program) (fn : Func) (x : CS) : G (SV × CS) :=
 match jU P x.s fn.results.toList with
 | none => .fail 908
 | some l => G.mchk (fn.results.toList.flatMap (rV x.s)) (.done (E9 l, x))
def FU (P : Program) (N : dj → NF1) (loops : Nat) : Nat → dj
 | 0, _, _, _, _, _ => .fail 700
 | k + 1, f, args, mem, next, h =>
  match P.funcs[f]? with
  | none => .fail 701
  | some fn => match fn.body with
   | none => .fail 702
   | some c =>
    if args.length ≤ fn.ntmps then
     (fV P (N (FU P N loops k)) loops c (gz fn args mem next h)).bind fun o => match o with
      | .nrm x => yv P fn x
      | .ret x => yv P fn x
      | .ext _ _ => .fail 703
    else .fail 704
def rf (_P : Program) (np : Nat) (ok : FuncId → Bool) (call : dj) (x : CS) (f : Operand) (args : List Operand) : Option Ef :=
 match dh x.s [] f, fA x.s [] args with
 | some (.clo n caps, cf), some (as, ca) =>
  if ok n && caps.all Ix then
   let as' := as ++ caps.map AG
   let R := ja np x 5000 (cJ (as'.flatMap S1.cells) []) []
   some ⟨cf ++ ca, (call n as' R x.s.next x.h).bind fun r =>
    let R' := ja np r.2 5000 (cJ (to r.1) (R.map Prod.fst)) []
    if (R.map Prod.fst).all (fun m => FD m R') then .done ⟨some (du r.1), R', some (r.2.s.next, r.2.h)⟩ else .fail 705, R.map Prod.fst, R.map Prod.fst, some x.s.next⟩
  else none
 | _, _ => none
theorem kq (P : Program) (np : Nat) (ok : FuncId → Bool) (call : dj) (x : CS) (f : Operand) (args : List Operand) : rf P np ok call x f args =
 match dh x.s [] f, fA x.s [] args with
 | some (.clo n caps, cf), some (as, ca) =>
  if ok n && caps.all Ix then
   let as' := as ++ caps.map AG
   let R := cz np x 5000 (cJ (as'.flatMap S1.cells) []) []
   some ⟨cf ++ ca, (call n as' (R.map fun m => (m, x.s.mem m)) x.s.next x.h).bind fun r =>
    let R' := cz np r.2 5000 (cJ (to r.1) R) []
    if R.all (fun m => R'.contains m) then .done ⟨some (du r.1), R'.map fun m => (m, r.2.s.mem m), some (r.2.s.next, r.2.h)⟩ else .fail 705, R, R, some x.s.next⟩
  else none
 | _, _ => none := by
 unfold rf
 simp only [vj, xH, tM]
theorem vQ {np : Nat} {ok : FuncId → Bool} {call : dj} {x x' : CS} {f : Operand} {args : List Operand} {e : Ef} (h : rf P np ok call x f args = some e) (hf : Ea x.s x'.s f) (ha : ∀ y ∈ args, Ea x.s x'.s y)
  (hm : ∀ n ∈ e.rd, x'.s.mem n = x.s.mem n) (hh : e.lo.isSome = true → x'.s.next = x.s.next ∧ x'.h = x.h) : rf P np ok call x' f args = some e := by
 rw [kq] at h ⊢
 rw [aA hf, eH ha]
 split at h
 ·rename_i n caps cf as ca h1 h2
  split at h
  ·rename_i hok
   simp only [Option.some.injEq] at h
   subst h
   obtain ⟨hn, hh⟩ := hh rfl
   simp only at hm
   have hR := hD hh 5000 (cJ ((as ++ caps.map AG).flatMap S1.cells) []) [] hm
   simp only [h1, h2, hok, if_true, hR, hn, hh]
   have hmap : (cz np x 5000 (cJ ((as ++ caps.map AG).flatMap S1.cells) []) []).map (fun m => (m, x'.s.mem m)) = (cz np x 5000 (cJ ((as ++ caps.map AG).flatMap S1.cells) []) []).map fun m => (m, x.s.mem m) :=
    List.map_congr_left fun m hmm => by rw [hm m hmm]
   rw [hmap]
  ·simp at h
 ·simp at h
theorem uU {np : Nat} {ok : FuncId → Bool} {call : dj} {x : CS} {f : Operand} {args : List Operand} {e : Ef} (h : rf P np ok call x f args = some e) : e.wr = e.rd := by
 rw [kq] at h
 split at h
 ·split at h
  ·simp only [Option.some.injEq] at h
   subst h; rfl
  ·simp at h
 ·simp at h
def wH : List (Option Bx × Option (Option Bx)) → G Upd → G Upd
 | [], g => g
 | p :: r, g =>
  match p.1, p.2 with
  | some a, some (some b) => if Nat.beq a.T b.T = true then .chk [.eqN a.r b.r] (.eql a.cs b.cs (wH r g)) else .fail 708
  | none, some none => wH r g
  | _, _ => .fail 708
def BS (x : CS) (e : Ef) : Ef :=
  { e with
    wr := []
    body := e.body.bind fun u => match u.hv with
      | some h => wH (e.wr.map fun m => (x.s.mem m, aO u.bx m)) (if e.wr.all (fun m => decide (m < h.1)) then .done { u with bx := u.bx.filter fun p => !e.wr.contains p.1 } else .fail 706)
      | none => .fail 707 }
def ow (P : Program) (np : Nat) (pur ok : FuncId → Bool) (call : dj) (x : CS) (f : Operand) (args : List Operand) : Option Ef :=
 (rf P np ok call x f args).bind fun e => match dh x.s [] f with
  | some (.clo n _, _) => if pur n then some (BS x e) else some e
  | _ => some e
theorem mQ {K : Upd → Prop} {g : G Upd} : ∀ {l : List (Option Bx × Option (Option Bx))}, (wH l g).den K → (∀ p ∈ l, p.2 = some p.1) ∧ g.den K
 | [], h => ⟨fun _ hp => (List.not_mem_nil hp).elim, h⟩
 | (a, b) :: r, h => by
  simp only [wH] at h
  split at h
  ·rename_i a' b'
   split at h
   ·rename_i hT
    have hT : a'.T = b'.T := Nat.eq_of_beq_eq_true hT
    obtain ⟨hr, hc, h⟩ := h
    replace hr : a'.r = b'.r := hr.1
    obtain ⟨h1, h2⟩ := mQ h
    refine ⟨fun p hp => ?_, h2⟩
    rcases List.mem_cons.1 hp with rfl | hp
    ·obtain ⟨r1, t1, c1⟩ := a'
     obtain ⟨r2, t2, c2⟩ := b'
     simp only at hT hr hc
     subst hT; subst hr; subst hc
     rfl
    ·exact h1 p hp
   ·exact h.elim
  ·obtain ⟨h1, h2⟩ := mQ h
   refine ⟨fun p hp => ?_, h2⟩
   rcases List.mem_cons.1 hp with rfl | hp
   ·rfl
   ·exact h1 p hp
  ·exact h.elim
theorem su {l : List (Nat × Option Bx)} {wr : List Nat} {n : Nat} : aO (l.filter fun p => !wr.contains p.1) n = if wr.contains n then none else aO l n := by
 induction l with
 | nil => simp [aO]
 | cons p r ih =>
  obtain ⟨k, b⟩ := p
  rw [List.filter_cons]
  by_cases hk : wr.contains k = true
  ·simp only [hk, Bool.not_true, Bool.false_eq_true, if_false]
   rw [ih]
   by_cases hn : wr.contains n = true
   ·simp only [hn, if_true]
   ·simp only [hn, Bool.false_eq_true, if_false, aO]
    rw [if_neg (fun e : n = k => hn (e ▸ hk))]
  ·simp only [Bool.not_eq_true] at hk
   simp only [hk, Bool.not_false, if_true, aO]
   by_cases e : n = k
   ·subst e; simp only [if_true, hk, Bool.false_eq_true, if_false]
   ·simp only [if_neg e]; exact ih
theorem zc {hi : Nat} {x : CS} {e : Ef} {d : Option Tmp} {K : CS → Prop} (hlo : e.lo.isSome = true) (h : (BS x e).run hi d x K) : e.run hi d x K := by
 obtain ⟨hcs, h⟩ := h
 refine ⟨hcs, ?_⟩
 have h := G.den_bind h
 refine G.den_mono (fun u hu => ?_) h
 split at hu
 ·rename_i hv hhv
  obtain ⟨hsame, hu⟩ := mQ hu
  split at hu
  ·rename_i hall
   obtain ⟨hok, hk⟩ := hu
   have hmem : ∀ m ∈ e.wr, aO u.bx m = some (x.s.mem m) := fun m hm => hsame (x.s.mem m, aO u.bx m) (List.mem_map.2 ⟨m, hm, rfl⟩)
   obtain ⟨l, hl⟩ := Option.isSome_iff_exists.1 hlo
   simp only [okU, BS, hl, hhv, Bool.and_eq_true, decide_eq_true_eq, List.all_eq_true, Bool.or_eq_true, List.contains_nil, Bool.false_eq_true, false_or] at hok
   obtain ⟨⟨h1, h2⟩, h3⟩ := hok
   refine ⟨?_, ?_⟩
   ·simp only [okU, hl, hhv, Bool.and_eq_true, decide_eq_true_eq, List.all_eq_true, Bool.or_eq_true]
    refine ⟨⟨h1, h2⟩, fun p hp => ?_⟩
    by_cases hc : e.wr.contains p.1 = true
    ·refine ⟨.inl hc, ?_⟩
     have := List.all_eq_true.1 hall p.1 (by simpa using hc)
     simpa using this
    ·have := h3 p (List.mem_filter.2 ⟨hp, by simpa using hc⟩)
     exact ⟨.inr this.1, this.2⟩
   ·have hx : x.app d { u with bx := u.bx.filter fun p => !e.wr.contains p.1 } = x.app d u := by
     refine CS.ext' rfl (fun t => rfl) (fun n => ?_) rfl rfl
     rw [CS.app_mem, CS.app_mem]
     simp only [su]
     by_cases hc : e.wr.contains n = true
     ·simp only [hc, if_true]
      rw [hmem n (by simpa using hc)]
     ·simp only [hc, Bool.false_eq_true, if_false]
    rw [hx] at hk
    exact hk
  ·exact hu.elim
 ·exact hu.elim
theorem AL {np : Nat} {ok : FuncId → Bool} {call : dj} {x : CS} {f : Operand} {args : List Operand} {e : Ef} (h : rf P np ok call x f args = some e) : e.lo.isSome = true := by
 rw [kq] at h
 split at h
 ·split at h
  ·simp only [Option.some.injEq] at h
   subst h; rfl
  ·simp at h
 ·simp at h
theorem lR {np : Nat} {pur ok : FuncId → Bool} {call : dj} {x : CS} {f : Operand} {args : List Operand} {e : Ef} (h : ow P np pur ok call x f args = some e) : ∃ e0, rf P np ok call x f args = some e0 ∧ (e = e0 ∨ e = BS x e0) := by
 unfold ow at h
 simp only [Option.bind_eq_some_iff] at h
 obtain ⟨e0, h0, h⟩ := h
 refine ⟨e0, h0, ?_⟩
 split at h
 ·split at h
  ·exact .inr (Option.some.inj h).symm
  ·exact .inl (Option.some.inj h).symm
 ·exact .inl (Option.some.inj h).symm
theorem ue {np : Nat} {pur ok : FuncId → Bool} {call : dj} {x x' : CS} {f : Operand} {args : List Operand} {e : Ef} (h : ow P np pur ok call x f args = some e) (hf : Ea x.s x'.s f) (ha : ∀ y ∈ args, Ea x.s x'.s y)
  (hm : ∀ n ∈ e.rd, x'.s.mem n = x.s.mem n) (hh : e.lo.isSome = true → x'.s.next = x.s.next ∧ x'.h = x.h) : ow P np pur ok call x' f args = some e := by
 have h' := h
 obtain ⟨e0, h0, hcase⟩ := lR h
 have hrd : e.rd = e0.rd ∧ e.lo = e0.lo := by rcases hcase with rfl | rfl <;> exact ⟨rfl, rfl⟩
 have h1 := vQ (x' := x') h0 hf ha (fun n hn => hm n (by rw [hrd.1]; exact hn)) (fun hl => hh (by rw [hrd.2]; exact hl))
 have hp : BS x' e0 = BS x e0 := by
  have e1 : (e0.wr.map fun m => x'.s.mem m) = e0.wr.map fun m => x.s.mem m := List.map_congr_left fun m hmm => hm m (by rw [hrd.1, ← uU h0]; exact hmm)
  have e2 : ∀ u : Upd, (e0.wr.map fun m => (x'.s.mem m, aO u.bx m)) = e0.wr.map fun m => (x.s.mem m, aO u.bx m) := fun u => List.map_congr_left fun m hmm => by rw [hm m (by rw [hrd.1, ← uU h0]; exact hmm)]
  simp only [BS, e2]
 unfold ow at h' ⊢
 rw [h1, aA hf, Option.bind_some]
 rw [h0, Option.bind_some] at h'
 rw [hp]
 exact h'
end
noncomputable section
variable {P : Program}
theorem jJ {m : Nat → Option Bx} {L : Own} (h : Boxes m L) (S : List Nat) :
  ∃ L1 L2, L.Perm (L1 ++ L2) ∧ Boxes (fun n => if n ∈ S then m n else none) L1 ∧ Boxes (fun n => if n ∈ S then none else m n) L2 := by
 obtain ⟨ns, f, hn, hs, hc, hp⟩ := h
 refine ⟨(ns.filter fun n => decide (n ∈ S)).map fun n => fX (m n) (f n), (ns.filter fun n => !decide (n ∈ S)).map fun n => fX (m n) (f n), ?_, ?_, ?_⟩
 ·refine hp.trans ?_
  rw [← List.map_append]
  exact (List.filter_append_perm _ ns).symm.map _
 ·refine ⟨_, f, hn.filter _, fun n => ?_, fun n b hb => ?_, List.Perm.of_eq (List.map_congr_left fun n hn => ?_)⟩
  ·rw [List.mem_filter]
   by_cases e : n ∈ S <;> simp [e, hs n]
  ·simp only at hb
   split at hb
   ·exact hc n b hb
   ·cases hb
  ·rw [List.mem_filter] at hn
   simp [of_decide_eq_true hn.2]
 ·refine ⟨_, f, hn.filter _, fun n => ?_, fun n b hb => ?_, List.Perm.of_eq (List.map_congr_left fun n hn => ?_)⟩
  ·rw [List.mem_filter]
   by_cases e : n ∈ S <;> simp [e, hs n]
  ·simp only at hb
   split at hb
   ·cases hb
   ·exact hc n b hb
  ·rw [List.mem_filter] at hn
   have : n ∉ S := by simpa using hn.2
   simp [this]
theorem vT {m1 m2 m : Nat → Option Bx} {L1 L2 : Own} (h1 : Boxes m1 L1) (h2 : Boxes m2 L2) (hd : ∀ n, (m1 n).isSome = true → m2 n = none)
  (hm : ∀ n, m n = if (m1 n).isSome then m1 n else m2 n) : Boxes m (L1 ++ L2) := by
 obtain ⟨ns, f, hn, hs, hc, hp⟩ := h1
 obtain ⟨ns', f', hn', hs', hc', hp'⟩ := h2
 have hdis : ∀ n, n ∈ ns → n ∉ ns' := fun n h h' => by
  have a := (hs n).2 h
  have b := (hs' n).2 h'
  rw [hd n a] at b
  cases b
 refine ⟨ns ++ ns', fun n => if n ∈ ns then f n else f' n, ?_, fun n => ?_, fun n b hb => ?_, ?_⟩
 ·rw [List.nodup_append]
  exact ⟨hn, hn', fun a ha b hb e => hdis a ha (e ▸ hb)⟩
 ·rw [hm n, List.mem_append, ← hs, ← hs']
  cases h : (m1 n).isSome <;> simp [h]
 ·rw [hm n] at hb
  cases h : (m1 n).isSome with
  | true =>
   have hin := (hs n).1 h
   rw [if_pos h] at hb
   simp only [hin, if_true]
   exact hc n b hb
  | false =>
   have hin : n ∉ ns := fun hin => by have := (hs n).2 hin; rw [h] at this; cases this
   rw [if_neg (by simp [h])] at hb
   simp only [hin, if_false]
   exact hc' n b hb
 ·rw [List.map_append]
  refine (hp.append hp').trans (List.Perm.of_eq ?_)
  congr 1
  ·refine List.map_congr_left fun n hin => ?_
   have h := (hs n).2 hin
   simp only [hm n, h, if_true, hin]
  ·refine List.map_congr_left fun n hin => ?_
   have h : n ∉ ns := fun h => hdis n h hin
   have h2 : ¬ (m1 n).isSome = true := fun e => h ((hs n).1 e)
   rw [hm n, if_neg h2]
   simp only [if_neg h]
theorem j6 (g : Nat → Option Bx) (n : Nat) : ∀ R : List Nat, aO (R.map fun m => (m, g m)) n = if n ∈ R then some (g n) else none
 | [] => rfl
 | m :: r => by
  simp only [List.map_cons, aO, j6 g n r]
  by_cases e : n = m
  ·subst e; simp
  ·simp [e]
def wa (F : Own) (x : CS) (H : Heap) (w : World) : Prop :=
 ∃ L O, Boxes x.s.mem L ∧ (∀ n b, x.s.mem n = some b → ∀ a, a ∈ b.cs → a.ok) ∧ oN x.h.ms O ∧ Models w H (L ++ (O ++ F)) ∧ ∀ n, x.s.next ≤ n → x.s.mem n = none
def cC (mem : List (Nat × Option Bx)) (next : Nat) (h : HS) : CS := ⟨{ sz := 0, tmps := fun _ => .s (.at .any), mem := fun n => (aO mem n).getD none, next := next }, h⟩
def f4 (P : Program) (ok : FuncId → Bool) (H : Heap) (call : dj) : Prop :=
 ∀ (f : FuncId) (args : List S1) (mem : List (Nat × Option Bx)) (next : Nat) (h : HS) (F : Own) (w : World) (K : SV × CS → Prop), ok f = true → (call f args mem next h).den K → (∀ s ∈ args, s.ok) →
  wa F (cC mem next h) H w →
  Calls P f (args.map S1.den).toArray w fun e w' => ∃ v sv y, e = .returned v ∧ sv.rel v ∧ sv.ok ∧ K (sv, y) ∧ wa F y H w'
theorem y9 {s : SS} (h : s.Ok) {x : ResultVar} {v : S1} (hx : tB P s x = some v) : v.ok := by
 cases x with
 | tmp t =>
  simp only [tB] at hx
  split at hx
  ·rename_i y hy
   split at hx
   ·simp only [Option.some.injEq] at hx
    subst hx
    have := h.1 t
    rw [hy] at this
    exact this
   ·simp at hx
  ·simp at hx
 | cell a T =>
  simp only [tB] at hx
  split at hx
  ·rename_i n r ha
   simp only [Option.bind_eq_some_iff] at hx
   obtain ⟨b, hb, hx⟩ := hx
   split at hx
   ·have hall := h.2 n b hb
    unfold vX at hx
    split at hx
    ·simp only [Option.some.injEq] at hx; subst hx; exact hall
    ·split at hx
     ·rename_i c hc
      simp only [Option.some.injEq] at hx; subst hx
      exact cM (hall c (by rw [hc]; simp))
     ·simp at hx
   ·simp at hx
  ·simp at hx
theorem rW {s : SS} (h : s.Ok) : ∀ {xs : List ResultVar} {l : List S1}, jU P s xs = some l → ∀ v ∈ l, v.ok
 | [], l, hx => by simp only [jU, Option.some.injEq] at hx; subst hx; simp
 | x :: r, l, hx => by
  simp only [jU] at hx
  split at hx
  ·rename_i v vs h1 h2
   simp only [Option.some.injEq] at hx
   subst hx
   intro u hu
   rcases List.mem_cons.1 hu with rfl | hu
   ·exact y9 h h1
   ·exact rW h h2 u hu
  ·simp at hx
def GG : List S1 → Value
 | [v] => v.den
 | l => .tuple (l.map S1.den).toArray
theorem uE {s : SS} (h : s.Ok) {gl : List (At × Bool)} : ∀ {xs : List Operand} {vs : List S1} {cs : List Ck}, fA s gl xs = some (vs, cs) → ∀ v ∈ vs, v.ok
 | [], vs, cs, hx => by simp only [fA, Option.some.injEq, Prod.mk.injEq] at hx; rw [← hx.1]; simp
 | x :: r, vs, cs, hx => by
  simp only [fA] at hx
  split at hx
  ·rename_i a c as cs' h1 h2
   simp only [Option.some.injEq, Prod.mk.injEq] at hx
   rw [← hx.1]
   intro u hu
   rcases List.mem_cons.1 hu with rfl | hu
   ·exact de h h1
   ·exact uE h h2 u hu
  ·simp at hx
theorem AE (c : Cp) : (AG c).den = c.den := by
 cases c with
 | b n r off => rfl
 | v x => exact j0 (.v x)
theorem oy {ops : Array Oper} {np : Nat} {ok : FuncId → Bool} (hokf : ∀ f, ok f = true → gU P f) {call : dj} {H : Heap} (hcall : f4 P ok H call) {o : Oper} {x : CS} {c : Call} {f : Operand} {e : Ef}
  (hop : o.op = .call c) (hcal : c.callee = .value f) (hg : ar (aJ ops) x.s o = .go []) (hd : ∀ d, o.dst = some d → d < x.s.sz) (he : rf P np ok call x f c.args.toList = some e)
  {hi : Nat} {F : Own} {a : Act} {w : World} {K : CS → Prop} {Q : Exit → Act → World → Prop} (hC : CC hi F x H a w) (hr : e.run hi o.dst x K) : wp1 P ops Q o (fun a' w' => ∃ x', CC hi F x' H a' w' ∧ K x') a w := by
 obtain ⟨⟨O, hM, hc⟩, hf, hn⟩ := hC
 rw [kq] at he
 split at he
 ·rename_i n caps cf as ca h1 h2
  split at he
  ·rename_i hok
   simp only [Bool.and_eq_true, List.all_eq_true] at hok
   simp only [Option.some.injEq] at he
   subst he
   obtain ⟨hcs, hr⟩ := hr
   simp only [AllCk.append] at hcs
   have hr := G.den_bind hr
   generalize hR : cz np x 5000 (cJ ((as ++ caps.map AG).flatMap S1.cells) []) [] = R at hr
   have e1 : a.eval f = .func (.func n) #[] (caps.map Cp.den).toArray := ay hc h1 hcs.1 trivial
   have e2 := hP hc h2 hcs.2 trivial
   unfold wp1
   rw [if_pos ((dS hc hg).2 trivial)]
   refine .inl ?_
   unfold Oper.wp
   rw [mG hop hcal e1 (hokf n hok.1) w, Oper.upon_enter]
   have eargs : c.args.map a.eval ++ (caps.map Cp.den).toArray = ((as ++ caps.map AG).map S1.den).toArray := by
    apply Array.ext'
    simp only [Array.toList_append, Array.toList_map, List.map_append, List.map_map]
    rw [e2]
    congr 1
    exact List.map_congr_left fun c _ => (AE c).symm
   rw [eargs]
   obtain ⟨L, hB, hmod⟩ := hc.mm
   obtain ⟨L1, L2, hp, hB1, hB2⟩ := jJ hB R
   have hmem : (fun n => (aO (R.map fun m => (m, x.s.mem m)) n).getD none) = fun n => if n ∈ R then x.s.mem n else none := by
    funext n
    rw [j6]
    by_cases e : n ∈ R <;> simp [e]
   have hMemC : wa (L2 ++ F) (cC (R.map fun m => (m, x.s.mem m)) x.s.next x.h) H w := by
    refine ⟨L1, O, by simp only [cC, hmem]; exact hB1, fun m b hb => ?_, hM, hmod.perm ?_, fun m hm' => ?_⟩
    ·simp only [cC] at hb
     rw [congrFun hmem m] at hb
     split at hb
     ·exact hc.ok.2 m b hb
     ·cases hb
    ·refine (hp.append_right _).trans ?_
     rw [List.append_assoc]
     refine List.Perm.append_left _ ?_
     exact List.perm_append_comm_assoc _ _ _
    ·simp only [cC] at hm' ⊢
     rw [congrFun hmem m]
     simp only [hf m hm', ite_self]
   refine (hcall n (as ++ caps.map AG) _ x.s.next x.h (L2 ++ F) w _ hok.1 hr ?_ hMemC).mono ?_
   ·intro s hs
    rcases List.mem_append.1 hs with hs | hs
    ·exact uE hc.ok h2 s hs
    ·obtain ⟨c, hcm, rfl⟩ := List.mem_map.1 hs
     have := hok.2 c hcm
     cases c with
     | b n r off => exact cM trivial
     | v x => exact cM (qM (a := .v x) this)
   ·rintro en w' ⟨v, sv, y, rfl, hrel, hsok, hk, L', O', hB', hcok', hM', hmod', hf'⟩
    split at hk
    ·rename_i hsub
     generalize hR' : cz np y 5000 (cJ (to sv) R) [] = R' at hk hsub
     obtain ⟨hokU, hk⟩ := hk
     simp only [okU, Bool.and_eq_true, decide_eq_true_eq, List.all_eq_true, Bool.or_eq_true] at hokU
     obtain ⟨⟨hu1, hu2⟩, hu3⟩ := hokU
     have hin : ∀ m, m ∈ R → m ∈ R' := fun m hm' => by
      have := List.all_eq_true.1 hsub m hm'
      simpa using this
     have hnew : ∀ m ∈ R', (m ∈ R ∨ x.s.next ≤ m) ∧ m < y.s.next := fun m hm' => by
      have := hu3 (m, y.s.mem m) (List.mem_map.2 ⟨m, hm', rfl⟩)
      simpa using this
     obtain ⟨L1', G', hp', hB1', _⟩ := jJ hB' R'
     have hmemA : ∀ m, (x.app o.dst ⟨some (du sv), R'.map fun m => (m, y.s.mem m), some (y.s.next, y.h)⟩).s.mem m = if m ∈ R' then y.s.mem m else x.s.mem m := by
      intro m
      rw [CS.app_mem]
      simp only [j6]
      by_cases e : m ∈ R' <;> simp [e]
     refine ⟨x.app o.dst ⟨some (du sv), R'.map fun m => (m, y.s.mem m), some (y.s.next, y.h)⟩, ⟨⟨O', hM', ?_⟩, ?_, ?_⟩, hk⟩
     ·have hput : Conc F (x.s.set o.dst sv) H O (a.put o.dst v) w := hc.put hd hrel hsok
      have htm : ∀ t, ((x.app o.dst ⟨some (du sv), R'.map fun m => (m, y.s.mem m), some (y.s.next, y.h)⟩).s.tmps t) = (x.s.set o.dst sv).tmps t ∨ ((x.app o.dst ⟨some (du sv), R'.map fun m => (m, y.s.mem m), some (y.s.next, y.h)⟩).s.tmps t) = du ((x.s.set o.dst sv).tmps t) := by
       intro t
       cases hdd : o.dst with
       | none => exact .inl rfl
       | some d =>
        by_cases e : t = d
        ·right; subst e; simp [CS.app, o6, SS.set]
        ·left; simp [CS.app, o6, SS.set, e]
      refine ⟨⟨fun t => ?_, fun m b hb => ?_⟩, hput.df, ?_, fun t => ?_, L1' ++ L2, ?_, ?_⟩
      ·rcases htm t with e | e
       ·rw [e]; exact hput.ok.1 t
       ·rw [e]; exact qJ (hput.ok.1 t)
      ·rw [hmemA] at hb
       split at hb
       ·exact hcok' m b hb
       ·exact hc.ok.2 m b hb
      ·rw [hput.sz]; cases o.dst <;> rfl
      ·rcases htm t with e | e
       ·rw [e]; exact hput.tm t
       ·rw [e]; exact nF (hput.tm t)
      ·refine vT hB1' hB2 (fun m hm1 => ?_) (fun m => ?_)
       ·split at hm1
        ·rename_i hmR
         by_cases e : m ∈ R
         ·simp [e]
         ·simp only [e, if_false]
          exact hf m ((hnew m hmR).1.resolve_left e)
        ·cases hm1
       ·rw [hmemA]
        by_cases e : m ∈ R'
        ·simp only [e, if_true]
         cases hy : y.s.mem m with
         | some b => rfl
         | none =>
          simp only [Option.isSome_none, Bool.false_eq_true, if_false]
          by_cases e' : m ∈ R
          ·simp [e']
          ·simp only [e', if_false]
           exact (hf m ((hnew m e).1.resolve_left e')).symm
        ·have e' : m ∉ R := fun h => e (hin m h)
         simp [e, e']
      ·have h3 : Models w' H (L1' ++ (O' ++ (L2 ++ F))) := by
        refine (hmod'.perm (hp'.append_right _)).sub ?_
        rw [List.append_assoc]
        exact List.Sublist.append_left (List.sublist_append_right _ _) _
       refine h3.perm ?_
       rw [List.append_assoc]
       exact List.Perm.append_left _ (List.perm_append_comm_assoc _ _ _)
     ·intro m hm'
      have hm2 : y.s.next ≤ m := hm'
      rw [hmemA]
      split
      ·rename_i e; have := (hnew m e).2; omega
      ·exact hf m (by omega)
     ·show hi ≤ y.s.next; omega
    ·exact hk.elim
  ·simp at he
 ·simp at he
theorem sX {ops : Array Oper} {np : Nat} {pur ok : FuncId → Bool} (hokf : ∀ f, ok f = true → gU P f) {call : dj} {H : Heap} (hcall : f4 P ok H call) {o : Oper} {x : CS} {c : Call} {f : Operand} {e : Ef}
  (hop : o.op = .call c) (hcal : c.callee = .value f) (hg : ar (aJ ops) x.s o = .go []) (hd : ∀ d, o.dst = some d → d < x.s.sz) (he : ow P np pur ok call x f c.args.toList = some e)
  {hi : Nat} {F : Own} {a : Act} {w : World} {K : CS → Prop} {Q : Exit → Act → World → Prop} (hC : CC hi F x H a w) (hr : e.run hi o.dst x K) : wp1 P ops Q o (fun a' w' => ∃ x', CC hi F x' H a' w' ∧ K x') a w := by
 obtain ⟨e0, h0, rfl | rfl⟩ := lR he
 ·exact oy hokf hcall hop hcal hg hd h0 hC hr
 ·exact oy hokf hcall hop hcal hg hd h0 hC (zc (AL h0) hr)
end
end Go.Sx
