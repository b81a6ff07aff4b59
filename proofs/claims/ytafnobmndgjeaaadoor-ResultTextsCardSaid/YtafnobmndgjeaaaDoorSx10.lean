/- Stores, new boxes, calls. -/
import Derived.Test.YtafnobmndgjeaaaDoorSx9
namespace Go.Sx
open Go
variable {P : Program} {ops : Array Oper} {o : Oper} {s : SS} {gl : List (At × Bool)}

theorem splice_cons (vs : List Value) (off : Nat) (v : Value) (r : List Value) (h : off < vs.length) : splice (vs.set off v) (off + 1) r = splice vs off (v :: r) := by
  unfold splice
  have e1 : (vs.set off v).take (off + 1) = vs.take off ++ [v] := by
    rw [List.take_set]
    apply List.ext_getElem?
    intro i
    by_cases hi : i < off
    · rw [List.getElem?_set_ne (by omega), List.getElem?_take, if_pos (by omega), List.getElem?_append_left (by simp; omega), List.getElem?_take, if_pos hi]
    · by_cases he : i = off
      · subst he
        rw [List.getElem?_set_self (by simp; omega), List.getElem?_append_right (by simp; omega)]
        have : i - (vs.take i).length = 0 := by simp; omega
        rw [this]; rfl
      · rw [List.getElem?_set_ne (by omega), List.getElem?_take, if_neg (by omega), List.getElem?_eq_none (by simp; omega)]
  have e2 : (vs.set off v).drop (off + 1 + r.length) = vs.drop (off + (v :: r).length) := by
    rw [List.drop_set_of_lt (by omega), List.length_cons]; congr 1; omega
  rw [e1, e2]; simp

theorem run_storeCells {r off : Nat} {T : TypeId} : ∀ (ys : List Value) (i : Nat) (vs : List Value) (w : World), w.heap[r]? = some (.cells vs.toArray T (0, 0)) → Ones ys → off + i + ys.length ≤ vs.length →
    ∃ w', (storeCells ⟨r, off, none⟩ ys i).run P w = .ok () w' ∧ (∀ b, b ≠ r → w'.heap[b]? = w.heap[b]?) ∧ w'.heap[r]? = some (.cells (splice vs (off + i) ys).toArray T (0, 0)) ∧ envOf w' = envOf w
  | [], i, vs, w, h, _, hl => ⟨w, rfl, fun _ _ => rfl, by rw [h]; simp [splice], rfl⟩
  | y :: ys, i, vs, w, h, ho, hl => by
    simp only [List.length_cons] at hl
    have hcell : w.cell? ⟨r, off + i, none⟩ = some (vs[off + i]'(by omega)) := by
      rw [cell_of_row w r (off + i) _ T _ h]; simp
    have hfr : w.frozen? ⟨r, off + i, none⟩ = false := frozen_of_row w r (off + i) _ T h
    have hset : (w.setCell ⟨r, off + i, none⟩ y).heap[r]? = some (.cells (vs.set (off + i) y).toArray T (0, 0)) := by
      rw [heap_setCell_same w r (off + i) vs.toArray T y h]; simp
    have henv : envOf (w.setCell ⟨r, off + i, none⟩ y) = envOf w := by
      unfold World.setCell; split <;> rfl
    obtain ⟨w', hr, hs, hb, he⟩ := run_storeCells (r := r) (off := off) ys (i + 1) (vs.set (off + i) y) (w.setCell ⟨r, off + i, none⟩ y) hset ho.2 (by simp; omega)
    refine ⟨w', ?_, fun b hne => ?_, ?_, he.trans henv⟩
    · simp only [storeCells, Sem.run_bind, add_none, run_store P w _ y .plain ho.1, hcell, hfr, Bool.false_eq_true, if_false, Result.andThen_ok]
      exact hr
    · rw [hs b hne, heap_setCell_other w ⟨r, off + i, none⟩ b y hne]
    · rw [hb, ← splice_cons vs (off + i) y ys (by omega)]; rfl

theorem run_storeVar {t : TypeId} {m : Nat} (hs : szOf P t = some m) {r off : Nat} {T : TypeId} {vs : List Value} {w : World} (h : w.heap[r]? = some (.cells vs.toArray T (0, 0))) {y : Value} {ys : List Value}
    (hy : y.cells = ys.toArray) (ho : Ones ys) (hm : ys.length = m) (hl : off + ys.length ≤ vs.length) :
    ∃ w', (storeVar t ⟨r, off, none⟩ y).run P w = .ok () w' ∧ (∀ b, b ≠ r → w'.heap[b]? = w.heap[b]?) ∧ w'.heap[r]? = some (.cells (splice vs off ys).toArray T (0, 0)) ∧ envOf w' = envOf w := by
  obtain ⟨w', hr, hb, hc, he⟩ := run_storeCells (P := P) (off := off) ys 0 vs w h ho (by omega)
  refine ⟨w', ?_, hb, hc, he⟩
  unfold storeVar
  rw [Sem.run_bind, run_sizeOf' hs, Result.andThen_ok]
  have : ¬ (y.cells.size ≠ m) := by rw [hy]; simp [hm]
  simp only [this, if_false]
  rw [hy]
  simpa using hr

theorem storeNF_sound {t : TypeId} {x y : Operand} {x' : At} {y' : S1} {cx cy : List Ck} {nfp : NF × FP} (ho : o.op = .store t x y) (hdst : o.dst = none) (hx : opAt s [] x = some (x', cx)) (hy : opS1 s [] y = some (y', cy))
    (hg : guardOf (tgtOf ops) s o = .go []) (h : storeNF P s t x' y' (cx ++ cy) = some nfp) : Sound P ops o s nfp.1 := by
  unfold storeNF at h
  cases hm : szOf P t with
  | none => simp [hm] at h
  | some m =>
    simp only [hm, Option.bind_some] at h
    split at h
    · simp at h
    · rename_i hcond
      simp only [Bool.or_eq_true, decide_eq_true_eq, Bool.not_eq_true', not_or, Decidable.not_not, Bool.not_eq_false] at hcond
      obtain ⟨hlen, hfit⟩ := hcond
      have common : ∀ {F H O a w}, Conc F s H O a w → AllCk (cx ++ cy) → a.eval x = x'.den ∧ a.eval y = y'.den ∧ y'.den.cells = (y'.cells.map At.den).toArray ∧ Ones (y'.cells.map At.den) := by
        intro F H O a w hc hcs
        rw [AllCk.append] at hcs
        have hok := opS1_ok hc.ok hy
        exact ⟨opAt_den hc hx hcs.1 trivial, opS1_den hc hy hcs.2 trivial, cells_den hfit hok, ones_map (by simpa using hfit) hok⟩
      split at h
      · rename_i n r off
        split at h
        · rename_i b hb
          split at h
          · rename_i hl
            simp only [Option.some.injEq] at h; subst h
            intro F H O a w d K Q hc hr
            obtain ⟨hcs, hk⟩ := hr
            obtain ⟨e1, e2, e3, e4⟩ := common hc hcs.2
            have hrb : r = b.r := hcs.1
            unfold wp1
            rw [if_pos ((guard_go hc hg).2 trivial)]
            refine .inl ?_
            obtain ⟨L, hL, hmod⟩ := hc.mm
            obtain ⟨us, L', hus, hperm, hL'⟩ := hL.take hb
            have hmod' := hmod.perm (hperm.append_right _)
            simp only [List.cons_append] at hmod'
            have hrow := (hmod'.own (b.r, .cells us.toArray b.T (0, 0)) (by simp)).1
            obtain ⟨w', hrun, hoth, hnew, henv⟩ := run_storeVar (P := P) hm hrow e3 e4 (by simpa using hlen) (off := off) (by have := hus.length; simp; omega)
            unfold Oper.wp
            have : (execOp a.eval o).run P w = .ok .skip w' := by
              simp only [execOp, ho, e1, e2, At.den, hrb, Instr.storeAt, Instr.sureAddr, Sem.run_bind, Sem.run_pure, Result.andThen_ok, hrun]
            rw [this, Oper.upon_skip, hdst]
            refine ⟨_, H, O, ?_, Heap.le_refl H, hk⟩
            have hput := hL'.put (n := n) (b := { b with cs := fillAt b.cs off y'.cells }) (vs := us.take off ++ y'.cells.map At.den ++ us.drop (off + y'.cells.length)) (by simp) (hus.fill off y'.cells)
            rw [box_back] at hput
            refine ⟨hc.ok.setBox n ?_, hc.df, hc.sz, hc.tm, _, hput, ?_⟩
            · rintro b' hb' a' ha'
              simp only [Option.some.injEq] at hb'; subst hb'
              simp only [fillAt, List.mem_append] at ha'
              rcases ha' with (ha' | ha') | ha'
              · exact hc.ok.2 n b hb a' (List.mem_of_mem_take ha')
              · exact opS1_ok hc.ok hy a' ha'
              · exact hc.ok.2 n b hb a' (List.mem_of_mem_drop ha')
            · refine hmod'.update hoth ?_ henv
              rw [hnew]; simp [splice]
          · simp at h
        · simp at h
      all_goals first
        | (simp at h; done)
        | (split at h
           · simp at h
           · rename_i hm0
             simp only [Option.some.injEq] at h; subst h
             intro F H O a w d K Q hc hr
             obtain ⟨hcs, O', hst, hk⟩ := hr
             obtain ⟨e1, e2, e3, e4⟩ := common hc hcs.2
             unfold wp1
             rw [if_pos ((guard_go hc hg).2 trivial)]
             refine .inl ?_
             obtain ⟨ad, cs, T, L', hp, hsp, hperm, hl, hO'⟩ := hst
             have had : ad = ⟨ad.block, ad.off, none⟩ := by cases ad; simp_all
             obtain ⟨L, hL, hmod⟩ := hc.mm
             have hmod' : Models w H ((ad.block, .cells cs T (0, 0)) :: (L ++ (L' ++ F))) := by
               refine hmod.perm ?_
               have := (hperm.append_right F)
               refine (List.Perm.append_left L this).trans ?_
               simp only [List.cons_append]
               exact List.perm_middle
             have hrow : w.heap[ad.block]? = some (.cells cs.toList.toArray T (0, 0)) := by simpa using (hmod'.own (ad.block, .cells cs T (0, 0)) (by simp)).1
             obtain ⟨w', hrun, hoth, hnew, henv⟩ := run_storeVar (P := P) hm hrow e3 e4 (by simpa using hlen) (off := ad.off) (by simpa using hl)
             unfold Oper.wp
             have : (execOp a.eval o).run P w = .ok .skip w' := by
               simp only [execOp, ho, e1, e2, hp, Instr.storeAt, Instr.sureAddr, Sem.run_bind, Sem.run_pure, Result.andThen_ok]
               rw [had, hrun]; rfl
             rw [this, Oper.upon_skip, hdst]
             refine ⟨s, H, O', ⟨hc.ok, hc.df, hc.sz, hc.tm, L, hL, ?_⟩, Heap.le_refl H, hk⟩
             have hu := hmod'.update hoth hnew henv
             subst hO'
             refine hu.perm ?_
             simp only [List.cons_append]
             exact List.perm_middle.symm)
end Go.Sx
