/- What a symbolic state says of the machine's; that an operation's normal form is sound: the frame of the proof. -/
import Derived.Test.YtafnobmndgjeaaaDoorSx4
import Derived.Laws.Sem
import Derived.Laws.Cells
import Derived.Laws.World
import Derived.Laws.Rows
namespace Go.Sx
open Go

def AllCk : List Ck → Prop
  | [] => True
  | c :: r => c.holds ∧ AllCk r
theorem AllCk.append {a b : List Ck} : AllCk (a ++ b) ↔ AllCk a ∧ AllCk b := by
  induction a with
  | nil => simp [AllCk]
  | cons c r ih => simp [AllCk, ih, and_assoc]

def CellsRel : List At → List Value → Prop
  | [], [] => True
  | a :: r, v :: vs => (a.known = true → v = a.den) ∧ CellsRel r vs
  | _, _ => False
theorem CellsRel.length : ∀ {cs : List At} {vs : List Value}, CellsRel cs vs → cs.length = vs.length
  | [], [], _ => rfl
  | _ :: _, _ :: _, h => by simp [CellsRel.length h.2]
theorem CellsRel.known : ∀ {cs : List At} {vs : List Value}, CellsRel cs vs → cs.all At.known = true → vs = cs.map At.den
  | [], [], _, _ => rfl
  | a :: r, v :: vs, h, hk => by
    simp only [List.all_cons, Bool.and_eq_true] at hk
    rw [List.map_cons, h.1 hk.1, CellsRel.known h.2 hk.2]
theorem CellsRel.drop : ∀ {cs : List At} {vs : List Value} (n : Nat), CellsRel cs vs → CellsRel (cs.drop n) (vs.drop n)
  | _, _, 0, h => by simpa using h
  | [], [], _ + 1, _ => by simp [CellsRel]
  | _ :: _, _ :: _, n + 1, h => by simpa using CellsRel.drop n h.2
theorem CellsRel.take : ∀ {cs : List At} {vs : List Value} (n : Nat), CellsRel cs vs → CellsRel (cs.take n) (vs.take n)
  | _, _, 0, _ => by simp [CellsRel]
  | [], [], _ + 1, _ => by simp [CellsRel]
  | _ :: _, _ :: _, n + 1, h => by simpa [CellsRel] using ⟨h.1, CellsRel.take n h.2⟩
theorem CellsRel.append : ∀ {cs ds : List At} {vs us : List Value}, CellsRel cs vs → CellsRel ds us → CellsRel (cs ++ ds) (vs ++ us)
  | [], _, [], _, _, h => by simpa using h
  | _ :: _, _, _ :: _, _, h, h' => by simpa [CellsRel] using ⟨h.1, CellsRel.append h.2 h'⟩
theorem CellsRel.map (cs : List At) : CellsRel cs (cs.map At.den) := by
  induction cs with
  | nil => simp [CellsRel]
  | cons a r ih => exact ⟨fun _ => rfl, ih⟩
theorem CellsRel.fill {cs : List At} {vs : List Value} (h : CellsRel cs vs) (off : Nat) (ys : List At) :
    CellsRel (fillAt cs off ys) (vs.take off ++ ys.map At.den ++ vs.drop (off + ys.length)) :=
  ((h.take off).append (CellsRel.map ys)).append (h.drop _)
theorem CellsRel.from (vs : List Value) : ∀ (m i : Nat), i + m = vs.length → CellsRel ((List.range' i m).map fun j => At.v (g vs j)) (vs.drop i)
  | 0, i, h => by
    have : vs.drop i = [] := List.drop_eq_nil_of_le (by omega)
    simp [this, CellsRel]
  | m + 1, i, h => by
    have hi : i < vs.length := by omega
    rw [List.drop_eq_getElem_cons hi, List.range'_succ, List.map_cons]
    refine ⟨fun _ => ?_, CellsRel.from vs m (i + 1) (by omega)⟩
    simp [At.den, g, hi]
theorem atsFrom_eq (vs : List Value) (i m : Nat) : atsFrom vs i m = (List.range' i m).map fun j => At.v (g vs j) := by
  unfold atsFrom
  rw [List.range'_eq_map_range, List.map_map]; rfl
theorem CellsRel.atsFrom {vs : List Value} {m : Nat} (h : vs.length = m) : CellsRel (atsFrom vs 0 m) vs := by
  rw [atsFrom_eq]; simpa using CellsRel.from vs m 0 (by omega)

def boxObj (b : Option Bx) (vs : List Value) : Nat × Obj :=
  match b with
  | some b => (b.r, .cells vs.toArray b.T (0, 0))
  | none => (0, .cells #[] 0 (0, 0))
/-- The own blocks of a state's boxes. -/
def Boxes (m : Nat → Option Bx) (L : Own) : Prop :=
  ∃ (ns : List Nat) (f : Nat → List Value), ns.Nodup ∧ (∀ n, (m n).isSome = true ↔ n ∈ ns) ∧ (∀ n b, m n = some b → CellsRel b.cs (f n)) ∧
    L.Perm (ns.map fun n => boxObj (m n) (f n))
theorem Boxes.perm {m : Nat → Option Bx} {L L' : Own} (h : Boxes m L) (hp : L.Perm L') : Boxes m L' :=
  let ⟨ns, f, a, b, c, d⟩ := h; ⟨ns, f, a, b, c, hp.symm.trans d⟩
theorem Boxes.none : Boxes (fun _ => Option.none) [] := ⟨[], fun _ => [], by simp, by simp, by simp, by simp⟩

theorem Boxes.take {m : Nat → Option Bx} {L : Own} {n : Nat} {b : Bx} (h : Boxes m L) (hb : m n = some b) :
    ∃ vs L', CellsRel b.cs vs ∧ L.Perm ((b.r, .cells vs.toArray b.T (0, 0)) :: L') ∧ Boxes (fun k => if k = n then Option.none else m k) L' := by
  obtain ⟨ns, f, hn, hs, hc, hp⟩ := h
  have hin : n ∈ ns := (hs n).1 (by simp [hb])
  refine ⟨f n, (ns.erase n).map fun k => boxObj (m k) (f k), hc n b hb, ?_, ns.erase n, f, hn.erase n, fun k => ?_, fun k b' hk => ?_, ?_⟩
  · refine hp.trans ?_
    have := (List.perm_cons_erase hin).map fun k => boxObj (m k) (f k)
    simpa [boxObj, hb] using this
  · by_cases hk : k = n
    · subst hk; simpa using fun hm => (List.Nodup.mem_erase_iff hn).1 hm |>.1 rfl
    · simp only [hk, if_false, hs k, List.Nodup.mem_erase_iff hn]; simp [hk]
  · by_cases e : k = n
    · simp [e] at hk
    · simp only [e, if_false] at hk; exact hc k b' hk
  · refine List.Perm.of_eq (List.map_congr_left fun k hk => ?_)
    have : k ≠ n := ((List.Nodup.mem_erase_iff hn).1 hk).1
    simp [this]

theorem Boxes.put {m : Nat → Option Bx} {L : Own} {n : Nat} {b : Bx} {vs : List Value} (h : Boxes m L) (hb : m n = Option.none) (hv : CellsRel b.cs vs) :
    Boxes (fun k => if k = n then some b else m k) ((b.r, .cells vs.toArray b.T (0, 0)) :: L) := by
  obtain ⟨ns, f, hn, hs, hc, hp⟩ := h
  have hout : n ∉ ns := fun hin => by have := (hs n).2 hin; simp [hb] at this
  refine ⟨n :: ns, fun k => if k = n then vs else f k, List.nodup_cons.2 ⟨hout, hn⟩, fun k => ?_, fun k b' hk => ?_, ?_⟩
  · by_cases e : k = n <;> simp [e, hs k]
  · by_cases e : k = n
    · subst e; simp at hk; subst hk; simpa using hv
    · simp only [e, if_false] at hk ⊢; exact hc k b' hk
  · simp only [List.map_cons, if_true, boxObj]
    refine List.Perm.cons _ (hp.trans (List.Perm.of_eq (List.map_congr_left fun k hk => ?_)))
    have : k ≠ n := fun e => hout (e ▸ hk)
    simp [this, boxObj]

theorem box_back (m : Nat → Option Bx) (n : Nat) (b : Option Bx) : (fun k => if k = n then b else if k = n then Option.none else m k) = fun k => if k = n then b else m k := by
  funext k; by_cases e : k = n <;> simp [e]

def S1.ok (x : S1) : Prop := ∀ a, a ∈ x.cells → a.ok
def SV.ok : SV → Prop
  | .s x => x.ok
  | .tup l => ∀ x, x ∈ l → x.ok
  | .opt _ x => x.ok
def SS.Ok (s : SS) : Prop := (∀ t, (s.tmps t).ok) ∧ ∀ n b, s.mem n = some b → ∀ a, a ∈ b.cs → a.ok
theorem SS.Ok.set {s : SS} (h : s.Ok) (d : Option Nat) {sv : SV} (hv : sv.ok) : (s.set d sv).Ok := by
  cases d with
  | none => exact h
  | some d =>
    refine ⟨fun t => ?_, h.2⟩
    simp only [SS.set]
    split
    · exact hv
    · exact h.1 t
theorem SS.Ok.setBox {s : SS} (h : s.Ok) (n : Nat) {b : Option Bx} (hv : ∀ b', b = some b' → ∀ a, a ∈ b'.cs → a.ok) : (s.setBox n b).Ok := by
  refine ⟨h.1, fun k b' hb => ?_⟩
  simp only [SS.setBox] at hb
  split at hb
  · exact hv b' hb
  · exact h.2 k b' hb
theorem At.fit_one {a : At} (h : a.fit = true) (ho : a.ok) : a.den.oneCell' = true := by
  cases a <;> simp_all [At.fit, At.ok, At.den, Value.oneCell']
theorem ok_mkSV {gl : List (At × Bool)} {x : S1} (h : x.ok) : (mkSV gl x).ok := by
  unfold mkSV; split <;> exact h

/-- The machine's state is one of those that the symbolic state stands for. F: what else is in memory. -/
structure Conc (F : Own) (s : SS) (H : Heap) (O : Own) (a : Act) (w : World) : Prop where
  ok : s.Ok
  df : a.defers = []
  sz : a.tmps.size = s.sz
  tm : ∀ t, (s.tmps t).rel (a.tmps.getD t undef)
  mm : ∃ L, Boxes s.mem L ∧ Models w H (L ++ (O ++ F))

theorem Conc.put {F : Own} {s : SS} {H : Heap} {O : Own} {a : Act} {w : World} (h : Conc F s H O a w) {dst : Option Nat} {sv : SV} {v : Value}
    (hd : ∀ d, dst = some d → d < s.sz) (hv : sv.rel v) (hok : sv.ok) : Conc F (s.set dst sv) H O (a.put dst v) w := by
  have hok' := h.ok.set dst hok
  cases dst with
  | none => exact h
  | some d =>
    have hlt : d < a.tmps.size := by rw [h.sz]; exact hd d rfl
    refine ⟨hok', h.df, by simp [Act.put, SS.set, h.sz], fun t => ?_, h.mm⟩
    simp only [SS.set, Act.put]
    by_cases e : t = d
    · subst e; simpa [Array.getD, hlt] using hv
    · have := h.tm t
      simp only [e, if_false]
      have hg : (a.tmps.setIfInBounds d v).getD t undef = a.tmps.getD t undef := by
        simp only [Array.getD_eq_getD_getElem?]
        rw [Array.getElem?_setIfInBounds_ne (by omega)]
      rw [hg]; exact this

theorem On_gden_cons (c : At) (p : Bool) (gl : List (At × Bool)) : On (gden ((c, p) :: gl)) ↔ c.den = .bool p ∧ On (gden gl) := Iff.rfl
theorem rel_mkSV {gl : List (At × Bool)} {x : S1} {v : Value} (h : On (gden gl) → v = x.den) (h' : ¬ On (gden gl) → v = undef) : (mkSV gl x).rel v := by
  unfold mkSV
  split
  · rename_i e
    have : gl = [] := by simpa using e
    subst this
    have hv := h trivial
    unfold SV.rel
    split <;> simp_all
  · exact ⟨h, h'⟩
theorem rel_s_known {x : S1} {v : Value} (hk : x.known = true) (h : (SV.s x).rel v) : v = x.den := by
  rcases x with a | l
  · cases a <;> first | exact h | simp [S1.known, S1.cells, At.known] at hk
  · exact h

theorem constS1_den (v : Value) : (constS1 v).den = v := by
  cases v <;> simp [constS1, S1.den, At.den, Function.comp_def]

theorem sufEqs_core : ∀ (rear gl' : List (At × Bool)), rear.length = gl'.length → ((rear.zip gl').all fun p => p.1.2 == p.2.2) = true →
    AllCk ((rear.zip gl').map fun p => .eqV p.1.1.den p.2.1.den) → On (gden rear) → On (gden gl')
  | [], [], _, _, _, _ => trivial
  | [], _ :: _, h, _, _, _ => by simp at h
  | _ :: _, [], h, _, _, _ => by simp at h
  | p :: r, q :: r', hl, hp, hc, ho => by
    simp only [List.zip_cons_cons, List.all_cons, Bool.and_eq_true, List.map_cons, AllCk, Ck.holds, beq_iff_eq] at hp hc
    refine ⟨?_, sufEqs_core r r' (by simpa using hl) (by simpa using hp.2) hc.2 ho.2⟩
    have := ho.1
    simp only [] at this ⊢
    rw [← hc.1, ← hp.1]; exact this
theorem On_drop : ∀ (gl : List (At × Bool)) (k : Nat), On (gden gl) → On (gden (gl.drop k))
  | [], k, _ => by simp [gden, On]
  | _ :: _, 0, h => h
  | _ :: r, k + 1, h => On_drop r k h.2
theorem sufEqs_on {gl gl' : List (At × Bool)} {cs : List Ck} (h : sufEqs gl gl' = some cs) (hc : AllCk cs) (ho : On (gden gl)) : On (gden gl') := by
  unfold sufEqs at h
  simp only [] at h
  split at h
  · rename_i hcond
    simp only [Option.some.injEq] at h
    subst h
    simp only [Bool.and_eq_true, decide_eq_true_eq] at hcond
    exact sufEqs_core _ _ hcond.1 hcond.2 hc (On_drop _ _ ho)
  · simp at h

theorem opS1_den {F : Own} {s : SS} {H : Heap} {O : Own} {a : Act} {w : World} (h : Conc F s H O a w) {gl : List (At × Bool)} {x : Operand} {v : S1} {cs : List Ck}
    (hx : opS1 s gl x = some (v, cs)) (hc : AllCk cs) (ho : On (gden gl)) : a.eval x = v.den := by
  cases x with
  | tmp t =>
    have ht := h.tm t
    simp only [opS1] at hx
    simp only [Act.eval]
    split at hx
    · rename_i y hy
      split at hx
      · rename_i hk; simp only [Option.some.injEq, Prod.mk.injEq] at hx; rw [← hx.1]; rw [hy] at ht; exact rel_s_known hk ht
      · simp at hx
    · rename_i gl' y hy
      split at hx
      · rename_i hk
        cases hs : sufEqs gl gl' with
        | none => simp [hs] at hx
        | some c =>
          simp only [hs, Option.map_some, Option.some.injEq, Prod.mk.injEq] at hx
          rw [hy] at ht
          rw [← hx.1]; exact ht.1 (sufEqs_on hs (hx.2 ▸ hc) ho)
      · simp at hx
    · simp at hx
  | const v => simp only [opS1, Option.some.injEq, Prod.mk.injEq] at hx; rw [← hx.1, constS1_den]; rfl
  | global n => simp only [opS1, Option.some.injEq, Prod.mk.injEq] at hx; rw [← hx.1]; rfl
  | func f => simp only [opS1, Option.some.injEq, Prod.mk.injEq] at hx; rw [← hx.1]; rfl

theorem opS1_known {s : SS} {gl : List (At × Bool)} {x : Operand} {v : S1} {cs : List Ck} (hx : opS1 s gl x = some (v, cs)) : v.known = true := by
  cases x with
  | tmp t =>
    simp only [opS1] at hx
    split at hx
    · split at hx
      · rename_i hk; simp only [Option.some.injEq, Prod.mk.injEq] at hx; rw [← hx.1]; exact hk
      · simp at hx
    · split at hx
      · rename_i gl' y hy hk
        cases hs : sufEqs gl gl' with
        | none => simp [hs] at hx
        | some c => simp only [hs, Option.map_some, Option.some.injEq, Prod.mk.injEq] at hx; rw [← hx.1]; exact hk
      · simp at hx
    · simp at hx
  | const v =>
    simp only [opS1, Option.some.injEq, Prod.mk.injEq] at hx; rw [← hx.1]
    cases v <;> simp [constS1, S1.known, S1.cells, At.known]
  | global n => simp only [opS1, Option.some.injEq, Prod.mk.injEq] at hx; rw [← hx.1]; rfl
  | func f => simp only [opS1, Option.some.injEq, Prod.mk.injEq] at hx; rw [← hx.1]; rfl

theorem constS1_ok (v : Value) : (constS1 v).ok := by
  intro a ha
  cases v <;> simp [constS1, S1.cells] at ha
  case agg cs => obtain ⟨x, _, rfl⟩ := ha; trivial
  all_goals (subst ha; trivial)
theorem opS1_ok {s : SS} (h : s.Ok) {gl : List (At × Bool)} {x : Operand} {v : S1} {cs : List Ck} (hx : opS1 s gl x = some (v, cs)) : v.ok := by
  cases x with
  | tmp t =>
    have ht := h.1 t
    simp only [opS1] at hx
    split at hx
    · rename_i y hy
      split at hx
      · simp only [Option.some.injEq, Prod.mk.injEq] at hx; rw [← hx.1]; rw [hy] at ht; exact ht
      · simp at hx
    · split at hx
      · rename_i gl' y hy hk
        cases hs : sufEqs gl gl' with
        | none => simp [hs] at hx
        | some c => simp only [hs, Option.map_some, Option.some.injEq, Prod.mk.injEq] at hx; rw [← hx.1]; rw [hy] at ht; exact ht
      · simp at hx
    · simp at hx
  | const v => simp only [opS1, Option.some.injEq, Prod.mk.injEq] at hx; rw [← hx.1]; exact constS1_ok v
  | global n =>
    simp only [opS1, Option.some.injEq, Prod.mk.injEq] at hx; rw [← hx.1]; intro a ha; simp [S1.cells] at ha; subst ha; trivial
  | func f =>
    simp only [opS1, Option.some.injEq, Prod.mk.injEq] at hx; rw [← hx.1]; intro a ha; simp [S1.cells] at ha; subst ha; trivial

theorem opAt_S1 {s : SS} {gl : List (At × Bool)} {x : Operand} {a : At} {cs : List Ck} (hx : opAt s gl x = some (a, cs)) : opS1 s gl x = some (.at a, cs) := by
  unfold opAt at hx
  split at hx
  · rename_i b c he; simp only [Option.some.injEq, Prod.mk.injEq] at hx; rw [he, hx.1, hx.2]
  · simp at hx
theorem opAt_den {F : Own} {s : SS} {H : Heap} {O : Own} {a : Act} {w : World} (h : Conc F s H O a w) {gl : List (At × Bool)} {x : Operand} {v : At} {cs : List Ck}
    (hx : opAt s gl x = some (v, cs)) (hc : AllCk cs) (ho : On (gden gl)) : a.eval x = v.den := opS1_den h (opAt_S1 hx) hc ho
theorem opAt_ok {s : SS} (h : s.Ok) {gl : List (At × Bool)} {x : Operand} {v : At} {cs : List Ck} (hx : opAt s gl x = some (v, cs)) : v.ok :=
  opS1_ok h (opAt_S1 hx) v (by simp [S1.cells])
theorem opAts_ok {s : SS} (h : s.Ok) {gl : List (At × Bool)} : ∀ {xs : List Operand} {vs : List At} {cs : List Ck}, opAts s gl xs = some (vs, cs) → ∀ a, a ∈ vs → a.ok
  | [], _, _, hx => by simp only [opAts, Option.some.injEq, Prod.mk.injEq] at hx; rw [← hx.1]; simp
  | x :: r, vs, cs, hx => by
    simp only [opAts] at hx
    split at hx
    · rename_i a' c as cs' h1 h2
      simp only [Option.some.injEq, Prod.mk.injEq] at hx
      rw [← hx.1]
      intro a ha
      rcases List.mem_cons.1 ha with rfl | ha
      · exact opAt_ok h h1
      · exact opAts_ok h h2 a ha
    · simp at hx
theorem opAts_den {F : Own} {s : SS} {H : Heap} {O : Own} {a : Act} {w : World} (h : Conc F s H O a w) {gl : List (At × Bool)} : ∀ {xs : List Operand} {vs : List At} {cs : List Ck},
    opAts s gl xs = some (vs, cs) → AllCk cs → On (gden gl) → xs.map a.eval = vs.map At.den
  | [], _, _, hx, _, _ => by simp only [opAts, Option.some.injEq, Prod.mk.injEq] at hx; rw [← hx.1]; rfl
  | x :: r, vs, cs, hx, hc, ho => by
    simp only [opAts] at hx
    split at hx
    · rename_i a' c as cs' h1 h2
      simp only [Option.some.injEq, Prod.mk.injEq] at hx
      rw [← hx.2, AllCk.append] at hc
      rw [← hx.1, List.map_cons, List.map_cons, opAt_den h h1 hc.1 ho, opAts_den h h2 hc.2 ho]
    · simp at hx
theorem opS1s_den {F : Own} {s : SS} {H : Heap} {O : Own} {a : Act} {w : World} (h : Conc F s H O a w) {gl : List (At × Bool)} : ∀ {xs : List Operand} {vs : List S1} {cs : List Ck},
    opS1s s gl xs = some (vs, cs) → AllCk cs → On (gden gl) → xs.map a.eval = vs.map S1.den
  | [], _, _, hx, _, _ => by simp only [opS1s, Option.some.injEq, Prod.mk.injEq] at hx; rw [← hx.1]; rfl
  | x :: r, vs, cs, hx, hc, ho => by
    simp only [opS1s] at hx
    split at hx
    · rename_i a' c as cs' h1 h2
      simp only [Option.some.injEq, Prod.mk.injEq] at hx
      rw [← hx.2, AllCk.append] at hc
      rw [← hx.1, List.map_cons, List.map_cons, opS1_den h h1 hc.1 ho, opS1s_den h h2 hc.2 ho]
    · simp at hx

/-- Is the operation run? As its guard says. -/
theorem guard_go {F : Own} {s : SS} {H : Heap} {O : Own} {a : Act} {w : World} (h : Conc F s H O a w) {ops : Array Oper} {o : Oper} {gl : List (At × Bool)}
    (hg : guardOf (tgtOf ops) s o = .go gl) : Region.wanted o (yielded ops a.tmps) = true ↔ On (gden gl) := by
  unfold guardOf at hg
  split at hg
  · rename_i e; simp only [GR.go.injEq] at hg; subst hg; simp [Region.wanted, e, gden, On]
  · rename_i j want e
    have hy : ∀ t, tgtOf ops j = some t → (Region.wanted o (yielded ops a.tmps) = true ↔ a.tmps.getD t undef = .bool want) := by
      intro t ht
      unfold tgtOf at ht
      simp only [Region.wanted, e, yielded, ht, Option.bind_some, Array.getD_eq_getD_getElem?]
      cases hv : a.tmps[t]? with
      | none => simp [undef]
      | some v => cases v <;> simp
    split at hg
    · simp at hg
    · rename_i t ht
      have htm := h.tm t
      rw [hy t ht]
      split at hg
      · rename_i b hb
        rw [hb] at htm
        simp only [SV.rel, S1.den, At.den] at htm
        split at hg
        · rename_i hbw; simp only [GR.go.injEq] at hg; subst hg; simp at hbw; simp [htm, hbw, gden, On]
        · simp at hg
      · simp at hg
      · rename_i c _ _ hb
        rw [hb] at htm
        split at hg
        · rename_i hk
          simp only [GR.go.injEq] at hg; subst hg
          have := rel_s_known (x := .at c) (by simpa [S1.known, S1.cells] using hk) htm
          rw [this]; simp [gden, On, S1.den]
        · simp at hg
      · rename_i gl' c hb
        rw [hb] at htm
        split at hg
        · simp only [GR.go.injEq] at hg; subst hg
          rw [On_gden_cons]
          by_cases ho : On (gden gl')
          · rw [htm.1 ho]; simp [S1.den, ho]
          · rw [htm.2 ho]; simp [undef, ho]
        · simp at hg
      · simp at hg
theorem guard_skip {F : Own} {s : SS} {H : Heap} {O : Own} {a : Act} {w : World} (h : Conc F s H O a w) {ops : Array Oper} {o : Oper}
    (hg : guardOf (tgtOf ops) s o = .skip) : Region.wanted o (yielded ops a.tmps) = false := by
  unfold guardOf at hg
  split at hg
  · simp at hg
  · rename_i j want e
    have hy : ∀ t, tgtOf ops j = some t → a.tmps.getD t undef ≠ .bool want → Region.wanted o (yielded ops a.tmps) = false := by
      intro t ht
      unfold tgtOf at ht
      simp only [Region.wanted, e, yielded, ht, Option.bind_some, Array.getD_eq_getD_getElem?]
      cases hv : a.tmps[t]? with
      | none => simp
      | some v => cases v <;> simp
    split at hg
    · simp at hg
    · rename_i t ht
      have htm := h.tm t
      refine hy t ht ?_
      split at hg
      · rename_i b hb
        rw [hb] at htm
        simp only [SV.rel, S1.den, At.den] at htm
        split at hg
        · simp at hg
        · rename_i hbw; simp at hbw; simpa [htm] using hbw
      · rename_i vs hb
        rw [hb] at htm
        simp only [SV.rel, S1.den, At.den] at htm
        simp [htm]
      · split at hg <;> simp at hg
      · split at hg <;> simp at hg
      · simp at hg
end Go.Sx
