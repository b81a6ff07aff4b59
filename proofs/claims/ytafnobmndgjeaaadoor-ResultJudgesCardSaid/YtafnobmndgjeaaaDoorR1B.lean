/- What the small functions of this seat hand back, II. -/
import Derived.Test.YtafnobmndgjeaaaDoorR1A
import Derived.Test.YtafnobmndgjeaaaDoorSx27
import Derived.Laws.StructEq
namespace Go.Proofs.YtafnobmndgjeaaaDoor
open Go Go.Sx
set_option maxRecDepth 100000
theorem fields40 : (Tryd.prog.fieldsOf 40).toList.map (fun f => (f.name, f.type, f.offset)) = [("Outcome", 38, 0), ("Reason", 35, 1)] := by kernel_rfl
theorem eqF40 (d : Nat) (a b c e : Int) (w : World) : (Op.eqFields (d + 1) #[I a, I b] #[I c, I e] (Tryd.prog.fieldsOf 40).toList).run Tryd.prog w = .ok (a == c && b == e) w := by
  have hf := fields40
  generalize (Tryd.prog.fieldsOf 40).toList = fs at hf
  rcases fs with _ | ⟨f1, _ | ⟨f2, _ | ⟨f3, r⟩⟩⟩
  · simp at hf
  · simp at hf
  · simp only [List.map_cons, List.map_nil, List.cons.injEq, Prod.mk.injEq, and_true] at hf
    obtain ⟨⟨h1, h2, h3⟩, h4, h5, h6⟩ := hf
    have e1 : ∀ d x y, (Op.equalIn (d + 1) 38 (I x) (I y)).run Tryd.prog w = .ok (x == y) w := fun d x y => run_equalIn_int w d 38 .i64 .i64 x y (by kernel_rfl)
    have e2 : ∀ d x y, (Op.equalIn (d + 1) 35 (I x) (I y)).run Tryd.prog w = .ok (x == y) w := fun d x y => run_equalIn_int w d 35 .i64 .i64 x y (by kernel_rfl)
    have p1 : ∀ xs : Array Value, ∀ v, xs[0]? = some v → (part 38 xs 0).run Tryd.prog w = .ok v w := fun xs v hv => by
      unfold part; rw [Sem.run_bind, run_isAgg' (m := 1) (by kernel_rfl)]; simp only [Result.andThen_ok]
      rw [show isAggT Tryd.prog 38 = false by kernel_rfl, hv]; rfl
    have p2 : ∀ xs : Array Value, ∀ v, xs[1]? = some v → (part 35 xs 1).run Tryd.prog w = .ok v w := fun xs v hv => by
      unfold part; rw [Sem.run_bind, run_isAgg' (m := 1) (by kernel_rfl)]; simp only [Result.andThen_ok]
      rw [show isAggT Tryd.prog 35 = false by kernel_rfl, hv]; rfl
    simp only [Op.eqFields, h1, h2, h3, h4, h5, h6, Sem.run_bind, ne_eq, not_false_eq_true, String.reduceEq, if_true]
    rw [p1 _ (I a) rfl, Result.andThen_ok, p1 _ (I c) rfl, Result.andThen_ok, e1, Result.andThen_ok]
    by_cases hac : a = c
    · subst hac
      simp only [beq_self_eq_true, Bool.not_true, Bool.false_eq_true, if_false, Bool.true_and, Sem.run_bind]
      rw [p2 _ (I b) rfl, Result.andThen_ok, p2 _ (I e) rfl, Result.andThen_ok, e2, Result.andThen_ok]
      by_cases hbe : b = e <;> simp [hbe]
    · simp [hac]
  · simp at hf
theorem eqv40 (op : BinOp) (h : op = .eql ∨ op = .neq) (a b c e : Int) (w : World) :
    ((PrimOp.eqv op 40 false).sem [.agg #[I a, I b], .agg #[I c, I e]]).run Tryd.prog w = .ok (.value (.bool (if op = .eql then (a == c && b == e) else !(a == c && b == e)))) w := by
  have hq : (Op.equalIn 10000 40 (.agg #[I a, I b]) (.agg #[I c, I e])).run Tryd.prog w = .ok (a == c && b == e) w := by
    rw [run_equalIn_agg w 9999 40 _ _ (by kernel_rfl) (by kernel_rfl)]
    exact eqF40 9998 a b c e w
  rcases h with rfl | rfl
  · simp [PrimOp.sem, Sem.run_bind, run_eqGuard_agg w .eql 40 (.global 0) (.global 0) _ _ (show Tryd.prog.eqGuardType Tryd.prog.depth 40 = false by kernel_rfl), run_eql_struct, hq]
  · simp [PrimOp.sem, Sem.run_bind, run_eqGuard_agg w .neq 40 (.global 0) (.global 0) _ _ (show Tryd.prog.eqGuardType Tryd.prog.depth 40 = false by kernel_rfl), run_neq_struct, hq]
def orL : List Int → Int
  | [] => 0
  | a :: r => if a = 0 then orL r else a
theorem s20 {H : Heap} {s : Value} {l : List Int} (h : Sl H 1 s (l.map fun n => [I n])) : Ret Tryd.prog 20 [s] H (I (orL l)) := by
  refine run20 (vs := [s]) (by kernel_rfl) ⟨h.one, trivial⟩ ?_
  simp only [t20]
  refine pure_den _ h.len ?_
  refine count_den l.length (fun i H' O' => O' = [] ∧ Heap.le H H' ∧ orL l = orL (l.drop i)) ⟨rfl, Heap.le_refl H, by simp⟩ ?_
  rintro i H' O' hi - ⟨rfl, hle, hor⟩
  refine pure_den _ (lss_eq _ _) (br_den (fun hb => ?_) (fun hb => ?_))
  · have hlt : i < l.length := by simpa using hb
    obtain ⟨a, h1, h2, h3, h4⟩ := (h.le hle).idx (k := .i64) (i := i) (r := [I l[i]]) (by simp [hlt])
    refine pure_den _ h1 (load_den h2 h3 h4 ?_)
    refine pure_den _ (neq_eq _ _) (br_den (fun hb => ?_) (fun hb => ?_))
    · refine ret_den ⟨?_, rfl⟩
      have : l[i] ≠ 0 := by simpa using hb
      rw [hor, List.drop_eq_getElem_cons hlt, orL, if_neg this]; rfl
    · have h0 : l[i] = 0 := by simpa using hb
      refine pure_den _ (add_one (by have := h.lenB; simp at this; omega)) (count_cont (by simp [Eqs]) hlt ⟨rfl, hle, ?_⟩)
      rw [hor, List.drop_eq_getElem_cons hlt, orL, if_pos h0]
  · have hge : l.length ≤ i := by simpa using hb
    refine ret_den ⟨?_, rfl⟩
    rw [hor, List.drop_of_length_le hge]; rfl
end Go.Proofs.YtafnobmndgjeaaaDoor
