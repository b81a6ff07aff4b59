/- The pure operations. -/
import Derived.Test.YtafnobmndgjeaaaDoorSx7
namespace Go.Sx
open Go

theorem plain_den : ∀ {as : List At} {vs : List Value}, as.mapM plainK = some vs → as.map At.den = vs
  | [], vs, h => by simp at h; subst h; rfl
  | a :: r, vs, h => by
    simp only [List.mapM_cons, Option.pure_def, Option.bind_eq_bind] at h
    cases ha : plainK a with
    | none => simp [ha] at h
    | some b =>
      simp only [ha, Option.bind_some] at h
      cases hl : r.mapM plainK with
      | none => simp [hl] at h
      | some bs =>
        simp only [hl, Option.bind_some, Option.some.injEq] at h
        subst h
        rw [List.map_cons, plain_den hl]
        unfold plainK at ha
        split at ha <;> simp at ha <;> subst ha <;> rfl

theorem ones_map {as : List At} (hf : ∀ a, a ∈ as → a.fit = true) (ho : ∀ a, a ∈ as → a.ok) : Ones (as.map At.den) := by
  induction as with
  | nil => trivial
  | cons a r ih => exact ⟨At.fit_one (hf a (by simp)) (ho a (by simp)), ih (fun b hb => hf b (by simp [hb])) (fun b hb => ho b (by simp [hb]))⟩

variable {P : Program} {ops : Array Oper} {o : Oper} {s : SS} {gl : List (At × Bool)}

theorem pureNF_sound {total : Bool} {op : POp} {as : List At} {cs : List Ck}
    (hg : guardOf (tgtOf ops) s o = .go gl) (hd : ∀ d, o.dst = some d → d < s.sz)
    (hfit : op = .pick ∨ op = .aidx → Ones (as.map At.den).tail ∨ ¬ s.Ok)
    (hexec : ∀ F H O a w v, Conc F s H O a w → AllCk cs → On (gden gl) → evalPure op (as.map At.den) = some v → (execOp a.eval o).run P w = .ok (.value v) w) :
    Sound P ops o s (pureNF gl total o.dst op as cs) := by
  unfold pureNF
  split
  · rename_i v hv
    unfold folds at hv
    simp only [Option.bind_eq_some_iff] at hv
    obtain ⟨vs, hvs, hev⟩ := hv
    refine sound_quiet (X := fun _ => .at (.k v)) hg hd (fun _ _ _ _ _ _ => ok_k v) ?_
    intro F H O a w _ hc hcs _ hon
    exact hexec F H O a w v hc hcs hon (by rw [plain_den hvs]; exact hev)
  · refine sound_quiet (X := fun vs => .at (.v (g vs 0))) hg hd ?_ ?_
    · rintro H O vs hok _ ⟨v, rfl, he, hone⟩
      refine ok_at ?_
      show v.oneCell' = true
      rcases hone with h0 | h1
      · have he := he (by rw [h0]; trivial)
        exact evalPure_one he (fun h => (hfit h).resolve_right (fun hn => hn hok))
      · exact h1
    · rintro F H O a w vs hc hcs ⟨v, rfl, he, _⟩ hon
      exact hexec F H O a w v hc hcs hon (he (by cases total <;> simp [hon, On]))

theorem run_eqGuard' {op : BinOp} {t : TypeId} {x y : Operand} {X Y : Value} (h : ¬ (X = .nilIface ∧ Y = .nilIface)) (h' : ∀ a b, ¬ (X = .agg a ∧ Y = .agg b)) (w : World) :
    (eqGuard op t x y X Y).run P w = .ok () w := by
  unfold eqGuard
  cases op <;> first
    | rfl
    | (simp only [Bool.not_true, Bool.false_eq_true, if_false]
       split
       · exact absurd ⟨rfl, rfl⟩ h
       · exact absurd ⟨rfl, rfl⟩ (h' _ _)
       · rfl)

theorem run_int {op : BinOp} {t : TypeId} {k : IntKind} {a b : Int} {v : Value} (hs : op ≠ .shl) (hs' : op ≠ .shr) (h : evalInt op k a b = some v) (w : World) :
    (binOp op t (.int k a) (.int k b)).run P w = .ok v w := by
  cases op <;> simp only [evalInt] at h <;> first
    | (simp at h; done)
    | exact absurd rfl hs
    | exact absurd rfl hs'
    | (simp only [Option.some.injEq] at h; subst h; simp [binOp, Op.intArith, Op.intCmp, Op.intBits]; done)
    | (split at h
       · simp at h
       · rename_i h0; simp only [Option.some.injEq] at h; subst h; simp [binOp, Op.intDiv, h0])

theorem run_shift {op : BinOp} {t : TypeId} {k k' : IntKind} {a b : Int} {v : Value} (h : evalShift op k a b = some v) (hs : op = .shl ∨ op = .shr) (w : World) :
    (binOp op t (.int k a) (.int k' b)).run P w = .ok v w := by
  unfold evalShift at h
  split at h
  · simp at h
  · rename_i h0
    rcases hs with rfl | rfl <;> simp only [Option.some.injEq] at h <;> subst h <;> simp [binOp, Op.shift, h0]

theorem run_str {op : BinOp} {t : TypeId} {a b : ByteArray} {v : Value} (h : evalStr op a b = some v) (w : World) :
    (binOp op t (.string a) (.string b)).run P w = .ok v w := by
  unfold evalStr at h
  split at h
  · split at h
    · simp at h
    · rename_i h0
      simp only [Option.some.injEq] at h; subst h
      simp only [binOp, Op.stringOp, if_neg h0]; rfl
  · simp only [Option.some.injEq] at h; subst h; simp [binOp, Op.stringOp]
  · simp only [Option.some.injEq] at h; subst h; simp [binOp, Op.stringOp]
  · simp at h

def BK.fits : BK → TypeDesc → Prop
  | .int, .int _ | .bool, .bool | .str, .string | .slice, .slice _ | .ptr, .pointer _ | .map, .map _ _ | .func, .func _ _ _ => True
  | _, _ => False
theorem bk_desc {t : TypeId} {bk : BK} (h : bkOf P t = some bk) : ∃ d, P.underlying t = some d ∧ bk.fits d := by
  unfold bkOf at h
  split at h <;> first
    | (simp at h; done)
    | (rename_i e; simp only [Option.some.injEq] at h; subst h; exact ⟨_, e, trivial⟩)

theorem run_equalIn_nil {t : TypeId} {bk : BK} {d : TypeDesc} (hd : P.underlying t = some d) (hm : bk.fits d) {x y : Value} {r : Bool} (h : nilR bk x y = some r) (n : Nat) (w : World) :
    (Op.equalIn (n + 1) t x y).run P w = .ok r w := by
  simp only [Op.equalIn, Sem.run_bind, run_underlying' hd w, Result.andThen_ok]
  unfold nilR at h
  split at h <;> simp only [Option.some.injEq, reduceCtorEq] at h <;> subst h <;> cases d <;> simp_all [BK.fits]
  all_goals first
    | rfl
    | (rename_i b _ _ _; cases b <;> rfl)
    | (rename_i b _ _; cases b <;> rfl)
    | (rename_i b _; cases b <;> rfl)
    | (rename_i b; cases b <;> rfl)
    | skip
theorem run_equal_nil {t : TypeId} {bk : BK} {d : TypeDesc} (hd : P.underlying t = some d) (hm : bk.fits d) {x y : Value} {r : Bool} (h : nilR bk x y = some r) (w : World) :
    (Op.equal t x y).run P w = .ok r w := run_equalIn_nil hd hm h 9999 w

theorem run_bin {op : BinOp} {t : TypeId} {bk : BK} (hb : bkOf P t = some bk) {x y : Operand} {X Y : Value} {v : Value} (h : evalBin op bk X Y = some v) (w : World) :
    (do eqGuard op t x y X Y; binOp op t X Y : Sem Value).run P w = .ok v w := by
  unfold evalBin at h
  split at h
  · rename_i k a k' b
    rw [Sem.run_bind, run_eqGuard' (by simp) (by simp) w, Result.andThen_ok]
    split at h
    · exact run_shift h (.inl rfl) w
    · exact run_shift h (.inr rfl) w
    · rename_i h1 h2
      split at h
      · rename_i e; subst e; exact run_int h1 h2 h w
      · simp at h
  · rw [Sem.run_bind, run_eqGuard' (by simp) (by simp) w, Result.andThen_ok]
    exact run_str h w
  · obtain ⟨d, hd, hm⟩ := bk_desc hb
    have key : ∀ r, nilR bk X Y = some r → (eqGuard op t x y X Y).run P w = .ok () w ∧ (Op.equal t X Y).run P w = .ok r w ∧
        (binOp .eql t X Y = do pure (.bool (← Op.equal t X Y))) ∧ (binOp .neq t X Y = do pure (.bool (!(← Op.equal t X Y)))) := by
      intro r hr
      refine ⟨run_eqGuard' ?_ ?_ w, run_equal_nil hd hm hr w, ?_, ?_⟩
      · rintro ⟨rfl, rfl⟩; unfold nilR at hr; split at hr <;> simp_all
      · rintro a b ⟨rfl, rfl⟩; unfold nilR at hr; split at hr <;> simp_all
      · unfold nilR at hr; split at hr <;> simp_all [binOp]
      · unfold nilR at hr; split at hr <;> simp_all [binOp]
    unfold evalNil at h
    split at h
    · simp only [Option.map_eq_some_iff] at h
      obtain ⟨r, hr, rfl⟩ := h
      obtain ⟨h1, h2, h3, _⟩ := key r hr
      rw [Sem.run_bind, h1, Result.andThen_ok, h3, Sem.run_bind, h2]; rfl
    · simp only [Option.map_eq_some_iff] at h
      obtain ⟨r, hr, rfl⟩ := h
      obtain ⟨h1, h2, _, h4⟩ := key r hr
      rw [Sem.run_bind, h1, Result.andThen_ok, h4, Sem.run_bind, h2]; rfl
    · simp at h
end Go.Sx
