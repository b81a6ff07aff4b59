/- What a normal form does; the quiet operations are sound. -/
import Derived.Test.YtafnobmndgjeaaaDoorSx5
namespace Go.Sx
open Go

def FK.pre (P : Program) (k : FK) (H : Heap) (O : Own) (vs : List Value) : Prop :=
  match k with
  | .sil => vs = []
  | .pure gd op args => ∃ v, vs = [v] ∧ (On gd → evalPure op args = some v) ∧ (gd = [] ∨ v.oneCell' = true)
  | .raw gd op args => ∃ v, vs = [v] ∧ (On gd → ∀ w, (op.sem args).run P w = .ok (.value v) w) ∧ v.oneCell' = true
  | .load gd p m => vs.length = m ∧ Ones vs ∧ (On gd → Reads H O p m vs)
  | .split c => ∃ b, c = .bool b ∧ vs = [.bool b]
  | .isplit c n => ∃ kd i, c = .int kd i ∧ 0 ≤ i ∧ i < n ∧ vs = [.int .i64 i]
def HK.T (P : Program) : HK → Heap → Own → (Value → Heap → Own → Prop) → Prop
  | .call f args => fun H O R => Triple P f args H O R
  | .callv fv args => fun H O R => ∃ f caps, fv = .func (.func f) #[] caps ∧ OkFn P f ∧ Triple P f (args ++ caps.toList) H O R
  | .prim op args => fun H O R => OpTriple P (op.sem args) H O R
def NF.run (P : Program) (d : Bool) (dst : Option Tmp) (x : NF) (s : SS) (K : SS → Heap → Own → Prop) (H : Heap) (O : Own) : Prop :=
  match x with
  | .fl cs k X => AllCk cs ∧ ∃ vs, k.pre P H O vs ∧ K (s.set dst (X vs)) H O
  | .box cs n T cells val => AllCk cs ∧ ∀ r, K ((s.setBox n (some ⟨r, T, cells⟩)).set dst (.s (.at (val r)))) H O
  | .stb cs n b => AllCk cs ∧ K (s.setBox n (some b)) H O
  | .hv cs k frz own shp post sv => AllCk cs ∧ CallD (k.T P) (d && k.isCall') (bvs frz) (bvs own) shp (fun vs css H O => AllCk (post vs) ∧ K (hvUpd dst frz own sv s vs css) H O) H O
  | .st cs p vs => AllCk cs ∧ ∃ O', OwnStore O p vs O' ∧ K s H O'

theorem chks_den {P : Program} {Q : Value → Heap → Own → Prop} {H : Heap} {O : Own} {t : Tree} : ∀ {cs : List Ck},
    (chks cs t).den P Q H O → AllCk cs ∧ t.den P Q H O
  | [], h => ⟨trivial, h⟩
  | _ :: _, h => ⟨⟨h.1, (chks_den h.2).1⟩, (chks_den h.2).2⟩
theorem isw_den {P : Program} {Q : Value → Heap → Own → Prop} {H : Heap} {O : Own} {c : Value} {kk : Nat → Tree} : ∀ {n i : Nat},
    (iswTree c kk i n).den P Q H O → ∃ (kd : IntKind) (j : Nat), c = .int kd j ∧ i ≤ j ∧ j < i + n ∧ (kk j).den P Q H O
  | 0, i, h => h.elim
  | n + 1, i, h => by
    obtain ⟨kd, m, hc, h1, h2⟩ := h
    by_cases e : m = i
    · exact ⟨kd, i, by rw [hc, e], Nat.le_refl _, by omega, h1 e⟩
    · obtain ⟨kd', j, hc', hl, hu, hk⟩ := isw_den (h2 e)
      exact ⟨kd', j, hc', by omega, by omega, hk⟩

theorem CallD_mono {T T' : Heap → Own → (Value → Heap → Own → Prop) → Prop} {d : Bool} {frz own : List BV} {shp : Shp} {K K' : List Value → List (List Value) → Heap → Own → Prop} {H : Heap} {O : Own}
    (hT : ∀ H O R, T H O R → T' H O R) (hK : ∀ vs cs H O, K vs cs H O → K' vs cs H O) (h : CallD T d frz own shp K H O) : CallD T' d frz own shp K' H O := by
  intro hcons
  obtain ⟨H1, O1, O2, Q, hg, ht, hk⟩ := h hcons
  exact ⟨H1, O1, O2, Q, hg, hT _ _ _ ht, fun v H' O' hq hle => let ⟨vs, cs, O3, a, b, c, e, k⟩ := hk v H' O' hq hle; ⟨vs, cs, O3, a, b, c, e, hK _ _ _ _ k⟩⟩

theorem nfTree_den {P : Program} {Q : Value → Heap → Own → Prop} {d : Bool} {dst : Option Tmp} {x : NF} {s : SS} {kk : SS → Tree} {H : Heap} {O : Own}
    (h : (nfTree d dst x s kk).den P Q H O) : x.run P d dst s (fun s' H' O' => (kk s').den P Q H' O') H O := by
  cases x with
  | fl cs k upd =>
    obtain ⟨hc, h⟩ := chks_den h
    refine ⟨hc, ?_⟩
    cases k with
    | sil => exact ⟨[], rfl, h⟩
    | pure gd op args => obtain ⟨v, h1, h2, h3⟩ := h; exact ⟨[v], ⟨v, rfl, h1, h2⟩, h3⟩
    | raw gd op args => obtain ⟨v, h1, h2, h3⟩ := h; exact ⟨[v], ⟨v, rfl, h1, h2⟩, h3⟩
    | load gd p m => obtain ⟨vs, h1, h2, h3, h4⟩ := h; exact ⟨vs, ⟨h1, h2, h3⟩, h4⟩
    | split c =>
      obtain ⟨b, hb, h1, h2⟩ := h
      refine ⟨[.bool b], ⟨b, hb, rfl⟩, ?_⟩
      cases b
      · exact h2 rfl
      · exact h1 rfl
    | isplit c n =>
      obtain ⟨kd, j, hc', _, hu, hk⟩ := isw_den h
      exact ⟨[.int .i64 j], ⟨kd, j, hc', by omega, by omega, rfl⟩, hk⟩
  | box cs n T cells val => exact chks_den h
  | stb cs n b => exact chks_den h
  | hv cs k frz own shp post upd =>
    obtain ⟨hc, h⟩ := chks_den h
    refine ⟨hc, ?_⟩
    cases k with
    | call f args =>
      show CallD _ (d && true) _ _ _ _ _ _
      rw [Bool.and_true]
      exact CallD_mono (fun _ _ _ x => x) (fun _ _ _ _ x => chks_den x) h
    | callv fv args =>
      obtain ⟨f, caps, hf, hok, h⟩ := h
      show CallD _ (d && true) _ _ _ _ _ _
      rw [Bool.and_true]
      exact CallD_mono (fun _ _ _ x => ⟨f, caps, hf, hok, x⟩) (fun _ _ _ _ x => chks_den x) h
    | prim op args =>
      show CallD _ (d && false) _ _ _ _ _ _
      rw [Bool.and_false]
      exact CallD_mono (fun _ _ _ x => x) (fun _ _ _ _ x => chks_den x) h
  | st cs p vs => exact chks_den h

/-- One operation, run or passed by as its guard says. -/
def wp1 (P : Program) (ops : Array Oper) (Q : Exit → Act → World → Prop) (o : Oper) (K : Act → World → Prop) (a : Act) (w : World) : Prop :=
  if Region.wanted o (yielded ops a.tmps) then o.wp P a w K Q ∨ (o.asks P a w ∧ LetsOut Q) else K (a.put o.dst undef) w
def Sound (P : Program) (ops : Array Oper) (o : Oper) (s : SS) (x : NF) : Prop :=
  ∀ (F : Own) (H : Heap) (O : Own) (a : Act) (w : World) (d : Bool) (K : SS → Heap → Own → Prop) (Q : Exit → Act → World → Prop),
    Conc F s H O a w → x.run P d o.dst s K H O →
    wp1 P ops Q o (fun a' w' => ∃ s' H' O', Conc F s' H' O' a' w' ∧ Heap.le H H' ∧ K s' H' O') a w

theorem ok_at {a : At} (h : a.ok) : (S1.at a).ok := by intro b hb; simp [S1.cells] at hb; subst hb; exact h
theorem ok_k (v : Value) : (S1.at (.k v)).ok := ok_at trivial

theorem sound_skip {P : Program} {ops : Array Oper} {o : Oper} {s : SS} (hg : guardOf (tgtOf ops) s o = .skip) (hd : ∀ d, o.dst = some d → d < s.sz) :
    Sound P ops o s (.fl [] .sil (fun _ => .s (.at (.k undef)))) := by
  intro F H O a w d K Q hc hr
  obtain ⟨_, vs, _, hk⟩ := hr
  unfold wp1
  rw [if_neg (by simp [guard_skip hc hg])]
  exact ⟨_, H, O, hc.put (sv := .s (.at (.k undef))) hd (show undef = At.den (.k undef) from rfl) (ok_k undef), Heap.le_refl H, hk⟩

/-- An operation that leaves memory as it is. -/
theorem sound_quiet {P : Program} {ops : Array Oper} {o : Oper} {s : SS} {gl : List (At × Bool)} {cs : List Ck} {k : FK} {X : List Value → S1}
    (hg : guardOf (tgtOf ops) s o = .go gl) (hd : ∀ d, o.dst = some d → d < s.sz)
    (hok : ∀ H O vs, s.Ok → AllCk cs → k.pre P H O vs → (X vs).ok)
    (hrun : ∀ F H O a w vs, Conc F s H O a w → AllCk cs → k.pre P H O vs → On (gden gl) → (execOp a.eval o).run P w = .ok (.value (X vs).den) w) :
    Sound P ops o s (.fl cs k (fun vs => mkSV gl (X vs))) := by
  intro F H O a w d K Q hc hr
  obtain ⟨hcs, vs, hp, hk⟩ := hr
  unfold wp1
  by_cases ho : On (gden gl)
  · rw [if_pos ((guard_go hc hg).2 ho)]
    refine .inl ?_
    unfold Oper.wp
    rw [hrun F H O a w vs hc hcs hp ho, Oper.upon_value]
    exact ⟨_, H, O, hc.put hd (rel_mkSV (fun _ => rfl) (fun h => absurd ho h)) (ok_mkSV (hok H O vs hc.ok hcs hp)), Heap.le_refl H, hk⟩
  · rw [if_neg (fun h => ho ((guard_go hc hg).1 h))]
    exact ⟨_, H, O, hc.put hd (rel_mkSV (fun h => absurd h ho) (fun _ => rfl)) (ok_mkSV (hok H O vs hc.ok hcs hp)), Heap.le_refl H, hk⟩

theorem evalPure_one {op : POp} {args : List Value} {v : Value} (h : evalPure op args = some v) (ha : op = .pick ∨ op = .aidx → Ones args.tail) : v.oneCell' = true := by
  have hg : ∀ (l : List Value) (i : Nat) (x : Value), Ones l → l[i]? = some x → x.oneCell' = true := by
    intro l
    induction l with
    | nil => intro i x _ hx; simp at hx
    | cons y r ih =>
      intro i x ho hx
      cases i with
      | zero => simp at hx; subst hx; exact ho.1
      | succ i => exact ih i x ho.2 (by simpa using hx)
  have hint : ∀ op k a b v, evalInt op k a b = some v → v.oneCell' = true := by
    intro op k a b v h
    cases op <;> simp only [evalInt] at h <;> first
      | (simp at h; done)
      | (simp only [Option.some.injEq] at h; subst h; rfl)
      | (split at h <;> first | (simp at h; done) | (simp only [Option.some.injEq] at h; subst h; rfl))
  have hnil : ∀ op bk x y v, evalNil op bk x y = some v → v.oneCell' = true := by
    intro op bk x y v h
    cases op <;> simp only [evalNil] at h <;> first
      | (simp at h; done)
      | (simp only [Option.map_eq_some_iff] at h; obtain ⟨b, _, rfl⟩ := h; rfl)
  cases op with
  | bin op bk =>
    match args, h with
    | [x, y], h =>
      simp only [evalPure] at h
      unfold evalBin at h
      split at h
      · split at h
        · unfold evalShift at h; split at h
          · simp at h
          · simp only [Option.some.injEq] at h; subst h; rfl
        · unfold evalShift at h; split at h
          · simp at h
          · simp only [Option.some.injEq] at h; subst h; rfl
        · split at h
          · exact hint _ _ _ _ _ h
          · simp at h
      · unfold evalStr at h
        split at h
        · split at h
          · simp at h
          · simp only [Option.some.injEq] at h; subst h; rfl
        · simp only [Option.some.injEq] at h; subst h; rfl
        · simp only [Option.some.injEq] at h; subst h; rfl
        · simp at h
      · exact hnil _ _ _ _ _ h
    | [], h => simp [evalPure] at h
    | [_], h => simp [evalPure] at h
    | _ :: _ :: _ :: _, h => simp [evalPure] at h
  | pick =>
    have ho := ha (.inl rfl)
    rcases args with _ | ⟨c, _ | ⟨x, _ | ⟨y, _ | ⟨u, r⟩⟩⟩⟩
    · simp [evalPure] at h
    · simp [evalPure] at h
    · simp [evalPure] at h
    · cases c <;> simp only [evalPure, reduceCtorEq, Option.some.injEq] at h
      rename_i b
      cases b
      · simp only [Bool.false_eq_true, if_false] at h; subst h; exact ho.2.1
      · simp only [if_true] at h; subst h; exact ho.1
    · simp [evalPure] at h
  | aidx =>
    have ho := ha (.inr rfl)
    match args, h, ho with
    | [], h, _ => simp [evalPure] at h
    | i :: cs, h, ho =>
      simp only [evalPure, evalAidx] at h
      split at h
      · split at h
        · exact hg _ _ _ ho h
        · simp at h
      · simp at h
  | _ =>
    unfold evalPure at h
    split at h <;> simp_all
    all_goals try (subst h; rfl)
    all_goals first
      | exact hint _ _ _ _ _ h
      | (unfold evalIdx at h; split at h <;> first | (simp at h; done) | (split at h <;> simp at h; subst h; rfl))
      | (unfold evalPidx at h; split at h <;> first | (simp at h; done) | (split at h <;> simp at h; subst h; rfl))
      | (unfold evalSidx at h; split at h <;> first | (simp at h; done) | (simp only [Option.map_eq_some_iff] at h; obtain ⟨_, _, rfl⟩ := h; rfl))
      | (split at h <;> first | (simp at h; done) | (unfold evalSlc at h; split at h <;> first | (simp at h; done) | (simp only [Option.map_eq_some_iff] at h; obtain ⟨_, _, rfl⟩ := h; rfl)))
      | (split at h <;> first | (simp at h; done) | (unfold evalSslc at h; split at h <;> first | (simp at h; done) | (simp only [Option.map_eq_some_iff] at h; obtain ⟨_, _, rfl⟩ := h; rfl)))
end Go.Sx
