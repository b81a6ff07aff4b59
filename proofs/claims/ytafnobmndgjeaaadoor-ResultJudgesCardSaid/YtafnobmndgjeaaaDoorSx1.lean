/- The memory discipline of my walks: a persistent heap, own blocks, triples of calls. Generic: no program in sight. -/
import Derived.Calls
import Derived.Orders
import Derived.Tactics
namespace Go.Sx
open Go

/-- Memory that is only read from now on. -/
abbrev Env := Os × (Nat → Question → Nat) × Array (Nat × ByteArray)
def envOf (w : World) : Env := (w.os, w.tape, w.output)
structure Heap where
  get : Nat → Option Obj
  env : Env
instance : CoeFun Heap (fun _ => Nat → Option Obj) := ⟨Heap.get⟩
/-- Blocks that the running function owns. -/
abbrev Own := List (Nat × Obj)

def Heap.le (H H' : Heap) : Prop := (∀ b o, H b = some o → H' b = some o) ∧ H'.env = H.env
theorem Heap.le_refl (H : Heap) : Heap.le H H := ⟨fun _ _ h => h, rfl⟩
theorem Heap.le_trans {H H' H'' : Heap} (h : Heap.le H H') (h' : Heap.le H' H'') : Heap.le H H'' := ⟨fun b o e => h'.1 b o (h.1 b o e), h'.2.trans h.2⟩

structure Models (w : World) (H : Heap) (O : Own) : Prop where
  pers : ∀ b o, H b = some o → w.heap[b]? = some o
  own : ∀ p, p ∈ O → w.heap[p.1]? = some p.2 ∧ H p.1 = none
  nodup : (O.map (·.1)).Nodup
  env : envOf w = H.env

theorem Models.perm {w : World} {H : Heap} {O O' : Own} (h : Models w H O) (hp : O.Perm O') : Models w H O' :=
  ⟨h.pers, fun p hp' => h.own p (hp.mem_iff.2 hp'), (hp.map _).nodup_iff.1 h.nodup, h.env⟩

theorem Models.sub {w : World} {H : Heap} {O O' : Own} (h : Models w H O) (hs : O'.Sublist O) : Models w H O' :=
  ⟨h.pers, fun p hp => h.own p (hs.subset hp), (hs.map _).nodup h.nodup, h.env⟩

/-- New state of the heap in which only the block r has changed, and it is an own one. -/
theorem Models.update {w w' : World} {H : Heap} {r : Nat} {o o' : Obj} {O : Own} (h : Models w H ((r, o) :: O))
    (hs : ∀ b, b ≠ r → w'.heap[b]? = w.heap[b]?) (hr : w'.heap[r]? = some o') (he : envOf w' = envOf w) : Models w' H ((r, o') :: O) := by
  have hn := h.nodup
  simp only [List.map_cons, List.nodup_cons] at hn
  refine ⟨fun b x hb => ?_, fun p hp => ?_, ?_, he.trans h.env⟩
  · have hne : b ≠ r := by
      intro e; subst e
      have := (h.own (b, o) (by simp)).2
      simp [this] at hb
    rw [hs b hne]; exact h.pers b x hb
  · rcases List.mem_cons.1 hp with rfl | hp
    · exact ⟨hr, (h.own (r, o) (by simp)).2⟩
    · have hne : p.1 ≠ r := fun e => hn.1 (e ▸ List.mem_map_of_mem hp)
      rw [hs _ hne]; exact h.own p (List.mem_cons_of_mem _ hp)
  · simpa [List.nodup_cons] using hn

/-- A new block. -/
theorem Models.push {w : World} {H : Heap} {O : Own} (h : Models w H O) (o : Obj) :
    Models { w with heap := w.heap.push o } H ((w.heap.size, o) :: O) := by
  have lt : ∀ b (x : Obj), w.heap[b]? = some x → b < w.heap.size := fun b x hb => by
    rcases Nat.lt_or_ge b w.heap.size with h | h
    · exact h
    · simp [Array.getElem?_eq_none h] at hb
  have keep : ∀ b (x : Obj), w.heap[b]? = some x → (w.heap.push o)[b]? = some x := fun b x hb => by
    have := lt b x hb
    rw [Array.getElem?_push, if_neg (by omega)]; exact hb
  refine ⟨fun b x hb => keep b x (h.pers b x hb), fun p hp => ?_, ?_, h.env⟩
  · rcases List.mem_cons.1 hp with rfl | hp
    · refine ⟨by simp, ?_⟩
      cases hH : H w.heap.size with
      | none => rfl
      | some x => have := lt _ _ (h.pers _ _ hH); omega
    · exact ⟨keep _ _ (h.own p hp).1, (h.own p hp).2⟩
  · simp only [List.map_cons, List.nodup_cons]
    refine ⟨fun hm => ?_, h.nodup⟩
    obtain ⟨p, hp, he⟩ := List.mem_map.1 hm
    have := lt _ _ (h.own p hp).1
    omega

/-- The world's other parts are of no account. -/
theorem Models.same {w w' : World} {H : Heap} {O : Own} (h : Models w H O) (e : w'.heap = w.heap) (he : envOf w' = envOf w) : Models w' H O :=
  ⟨fun b o hb => by rw [e]; exact h.pers b o hb, fun p hp => by rw [e]; exact h.own p hp, h.nodup, he.trans h.env⟩

/-- Freeze an own block. -/
def Heap.ins (H : Heap) (r : Nat) (o : Obj) : Heap := ⟨fun b => match H b with
  | some x => some x
  | none => if b = r then some o else none, H.env⟩
theorem Heap.le_ins (H : Heap) (r : Nat) (o : Obj) : Heap.le H (H.ins r o) := ⟨fun b x h => by simp only [Heap.ins]; rw [h], rfl⟩

theorem Models.freeze {w : World} {H : Heap} {r : Nat} {o : Obj} {O : Own} (h : Models w H ((r, o) :: O)) : Models w (H.ins r o) O := by
  have hn := h.nodup
  simp only [List.map_cons, List.nodup_cons] at hn
  refine ⟨fun b x hb => ?_, fun p hp => ?_, hn.2, h.env⟩
  · simp only [Heap.ins] at hb
    split at hb
    · rename_i y hy; cases hb; exact h.pers b _ hy
    · split at hb
      · rename_i e; subst e; cases hb; exact (h.own (b, o) (by simp)).1
      · cases hb
  · have hne : p.1 ≠ r := fun e => hn.1 (e ▸ List.mem_map_of_mem hp)
    have hp' := h.own p (List.mem_cons_of_mem _ hp)
    refine ⟨hp'.1, ?_⟩
    simp only [Heap.ins, hp'.2, if_neg hne]

/-- Steps of thought: what is owned may be forgotten, turned, frozen. -/
def Ghost (H : Heap) (O : Own) (H' : Heap) (O' : Own) : Prop := ∀ w F, Models w H (O ++ F) → Models w H' (O' ++ F) ∧ Heap.le H H'

/-- There is a state of memory in which it is so. -/
def Cons (H : Heap) (O : Own) : Prop := ∃ w F, Models w H (O ++ F)
theorem Cons.none {H : Heap} {O : Own} (h : Cons H O) {p : Nat × Obj} (hp : p ∈ O) : H p.1 = none :=
  let ⟨_, _, hm⟩ := h; (hm.own p (List.mem_append_left _ hp)).2
theorem Cons.nodup {H : Heap} {O : Own} (h : Cons H O) : (O.map (·.1)).Nodup := by
  obtain ⟨_, _, hm⟩ := h
  have := hm.nodup
  rw [List.map_append] at this
  exact (List.nodup_append.1 this).1

theorem Ghost.refl (H : Heap) (O : Own) : Ghost H O H O := fun _ _ h => ⟨h, Heap.le_refl H⟩
theorem Ghost.trans {H H' H'' : Heap} {O O' O'' : Own} (h : Ghost H O H' O') (h' : Ghost H' O' H'' O'') : Ghost H O H'' O'' :=
  fun w F hm => ⟨(h' w F (h w F hm).1).1, Heap.le_trans (h w F hm).2 (h' w F (h w F hm).1).2⟩
theorem Ghost.perm {H : Heap} {O O' : Own} (hp : O.Perm O') : Ghost H O H O' := fun _ F h => ⟨h.perm (hp.append_right F), Heap.le_refl H⟩
theorem Ghost.sub {H : Heap} {O O' : Own} (hs : O'.Sublist O) : Ghost H O H O' := fun _ F h => ⟨h.sub (hs.append_right F), Heap.le_refl H⟩
theorem Ghost.drop (H : Heap) (O : Own) : Ghost H O H [] := Ghost.sub (List.nil_sublist O)
theorem Ghost.freeze (H : Heap) (r : Nat) (o : Obj) (O : Own) : Ghost H ((r, o) :: O) (H.ins r o) O := fun _ _ h =>
  ⟨Models.freeze (by simpa using h), Heap.le_ins H r o⟩
theorem Ghost.frame {H H' : Heap} {O O' : Own} (h : Ghost H O H' O') (X : Own) : Ghost H (O ++ X) H' (O' ++ X) := fun w F hm => by
  have := h w (X ++ F) (by simpa using hm)
  exact ⟨by simpa using this.1, this.2⟩

/-- What a call does: it returns, whatever else is in memory. -/
def Triple (P : Program) (f : FuncId) (args : List Value) (H : Heap) (O : Own) (Q : Value → Heap → Own → Prop) : Prop :=
  ∀ w F, Models w H (O ++ F) → Calls P f args.toArray w fun e w' => ∃ v H' O', e = .returned v ∧ Q v H' O' ∧ Heap.le H H' ∧ Models w' H' (O' ++ F)

theorem Triple.mono {P : Program} {f : FuncId} {args : List Value} {H : Heap} {O : Own} {Q Q' : Value → Heap → Own → Prop} (h : Triple P f args H O Q)
    (hq : ∀ v H' O', Heap.le H H' → Q v H' O' → Q' v H' O') : Triple P f args H O Q' :=
  fun w F hm => (h w F hm).mono fun _ _ ⟨v, H', O', he, q, hle, hm'⟩ => ⟨v, H', O', he, hq _ _ _ hle q, hle, hm'⟩

/-- Own blocks that a call does not need. -/
theorem Triple.frame {P : Program} {f : FuncId} {args : List Value} {H : Heap} {O : Own} {Q : Value → Heap → Own → Prop} (h : Triple P f args H O Q) (X : Own) :
    Triple P f args H (O ++ X) fun v H' O' => ∃ O'', O' = O'' ++ X ∧ Q v H' O'' :=
  fun w F hm => (h w (X ++ F) (by simpa using hm)).mono fun _ _ ⟨v, H', O', he, q, hle, hm'⟩ => ⟨v, H', O' ++ X, he, ⟨O', rfl, q⟩, hle, by simpa using hm'⟩

/-- The same of one operation that is no call of a Go function. -/
def OpTriple (P : Program) (s : Sem Next) (H : Heap) (O : Own) (Q : Value → Heap → Own → Prop) : Prop :=
  ∀ w F, Models w H (O ++ F) → ∃ v w' H' O', s.run P w = .ok (.value v) w' ∧ Q v H' O' ∧ Heap.le H H' ∧ Models w' H' (O' ++ F)

/-- A cell of the persistent heap. -/
def Heap.cell? (H : Heap) (a : Addr) : Option Value :=
  match H a.block with
  | some (.cells c _ _) => if a.spot.isSome then none else c[a.off]?
  | _ => none

theorem Models.cell? {w : World} {H : Heap} {O : Own} (h : Models w H O) {a : Addr} {v : Value} (hc : H.cell? a = some v) : w.cell? a = some v := by
  unfold Heap.cell? at hc
  cases hb : H a.block with
  | none => simp [hb] at hc
  | some o =>
    simp only [hb] at hc
    simp only [World.cell?, h.pers _ _ hb]
    exact hc

theorem Heap.le.cell? {H H' : Heap} (h : Heap.le H H') {a : Addr} {v : Value} (hc : H.cell? a = some v) : H'.cell? a = some v := by
  unfold Heap.cell? at *
  cases hb : H a.block with
  | none => simp [hb] at hc
  | some o =>
    simp only [hb] at hc
    simp only [h.1 _ _ hb]
    exact hc

/-- m cells from a pointer on. -/
def Heap.read (H : Heap) (p : Value) (m : Nat) : Option (List Value) :=
  match p with
  | .pointer (some a) => (List.range m).mapM fun i => H.cell? (a.add i)
  | _ => none

theorem mapM_some_mono {α β : Type} {f g : α → Option β} (h : ∀ a b, f a = some b → g a = some b) : ∀ (l : List α) (r : List β), l.mapM f = some r → l.mapM g = some r := by
  intro l
  induction l with
  | nil => intro r h; simpa using h
  | cons a l ih =>
    intro r hr
    simp only [List.mapM_cons, Option.pure_def, Option.bind_eq_bind] at hr ⊢
    cases ha : f a with
    | none => simp [ha] at hr
    | some b =>
      simp only [ha, Option.bind_some] at hr
      cases hl : l.mapM f with
      | none => simp [hl] at hr
      | some bs =>
        simp only [hl, Option.bind_some] at hr
        simp only [h a b ha, ih bs hl, Option.bind_some]
        exact hr

theorem Heap.le.read {H H' : Heap} (h : Heap.le H H') {p : Value} {m : Nat} {vs : List Value} (hr : H.read p m = some vs) : H'.read p m = some vs := by
  cases p with
  | pointer a =>
    cases a with
    | none => simp [Heap.read] at hr
    | some a => exact mapM_some_mono (fun i v hv => h.cell? hv) _ _ hr
  | _ => simp [Heap.read] at hr

end Go.Sx
