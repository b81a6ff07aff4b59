/- Loops; intrinsic functions; the equality of small structs. -/
import Derived.Test.YtafnobmndgjeaaaDoorSx26
import Derived.Laws.StructEq
namespace Go.Sx
open Go

def Back (I : List Value → Heap → Own → Prop) (μ : List Value → Heap → Own → Nat) (m : Nat) : List Value → Heap → Own → Prop :=
  fun vs' H'' O'' => Cons H'' O'' → ∃ H3 O3, Ghost H'' O'' H3 O3 ∧ I vs' H3 O3 ∧ μ vs' H3 O3 < m
theorem loop_den {P : Program} {lab key : Nat} {init : List Value} {body : (List Value → Heap → Own → Prop) → List Value → Tree} {H : Heap} {O : Own} {Q : Value → Heap → Own → Prop}
    (I : List Value → Heap → Own → Prop) (μ : List Value → Heap → Own → Nat) (h0 : I init H O)
    (step : ∀ vs H' O', vs.length = init.length → Ones vs → Heap.le H H' → I vs H' O' → (body (Back I μ (μ vs H' O')) vs).den P Q H' O') : (Tree.loop lab key init body).den P Q H O :=
  ⟨I, μ, fun _ => ⟨H, O, Ghost.refl _ _, h0⟩, step⟩
theorem cont_den {P : Program} {lab m : Nat} {I : List Value → Heap → Own → Prop} {μ : List Value → Heap → Own → Nat} {vals : List Value} {eqs : List (List Value × List Value)} {H : Heap} {O : Own} {Q : Value → Heap → Own → Prop}
    (he : Eqs eqs) (hi : I vals H O) (hm : μ vals H O < m) : (Tree.cont lab (Back I μ m) vals eqs).den P Q H O := ⟨he, fun _ => ⟨H, O, Ghost.refl _ _, hi, hm⟩⟩

/-- An index that runs up to n: nothing else is carried. -/
theorem count_den {P : Program} {lab key : Nat} {body : (List Value → Heap → Own → Prop) → List Value → Tree} {H : Heap} {O : Own} {Q : Value → Heap → Own → Prop} (n : Nat) (R : Nat → Heap → Own → Prop)
    (h0 : R 0 H O) (step : ∀ i H' O', i ≤ n → Heap.le H H' → R i H' O' → (body (Back (fun vs H O => ∃ i : Nat, vs = [.int .i64 i] ∧ i ≤ n ∧ R i H O) (fun vs _ _ => match g vs 0 with | .int _ k => n - k.toNat | _ => 0) (n - i)) [.int .i64 i]).den P Q H' O') :
    (Tree.loop lab key [.int .i64 0] body).den P Q H O := by
  refine loop_den (fun vs H O => ∃ i : Nat, vs = [.int .i64 i] ∧ i ≤ n ∧ R i H O) (fun vs _ _ => match g vs 0 with | .int _ k => n - k.toNat | _ => 0) ⟨0, rfl, Nat.zero_le _, h0⟩ ?_
  rintro vs H' O' _ _ hle ⟨i, rfl, hi, hr⟩
  exact step i H' O' hi hle hr
theorem count_cont {P : Program} {lab n i : Nat} {R : Nat → Heap → Own → Prop} {eqs : List (List Value × List Value)} {H : Heap} {O : Own} {Q : Value → Heap → Own → Prop} (he : Eqs eqs) (hi : i < n) (hr : R (i + 1) H O) :
    (Tree.cont lab (Back (fun vs H O => ∃ i : Nat, vs = [.int .i64 i] ∧ i ≤ n ∧ R i H O) (fun vs _ _ => match g vs 0 with | .int _ k => n - k.toNat | _ => 0) (n - i)) [.int .i64 ((i + 1 : Nat) : Int)] eqs).den P Q H O := by
  refine cont_den he ⟨i + 1, rfl, hi, hr⟩ ?_
  show n - ((i + 1 : Nat) : Int).toNat < n - i
  simp; omega

theorem wrap_id {n : Int} (h1 : -9223372036854775808 ≤ n) (h2 : n ≤ 9223372036854775807) : IntKind.i64.wrap n = n := by
  simp only [IntKind.wrap, IntKind.bits, IntKind.signed]
  simp
  omega
theorem add_nat {i n : Nat} (h : i + n < 2 ^ 63) : evalPure (.bin .add .int) [.int .i64 (i : Int), .int .i64 (n : Int)] = some (.int .i64 ((i + n : Nat) : Int)) := by
  simp only [evalPure, evalBin, evalInt, if_true]
  rw [wrap_id (by omega) (by omega)]
  simp
theorem add_one {i : Nat} (h : i + 1 < 2 ^ 63) : evalPure (.bin .add .int) [.int .i64 (i : Int), .int .i64 1] = some (.int .i64 ((i + 1 : Nat) : Int)) := add_nat (n := 1) h

/-- An operation that hands back one value and leaves memory as it is. -/
theorem prim_val {P : Program} {op : PrimOp} {args : List Value} {H : Heap} {O : Own} {v : Value} {shp : Shp} {K : List Value → List (List Value) → Heap → Own → Prop} {vs : List Value}
    (h : ∀ w, (op.sem args).run P w = .ok (.value v) w) (ho : shp.open v = some vs) (h1 : Ones vs) (hk : K vs [] H O) :
    CallD (fun H1 O1 R => OpTriple P (op.sem args) H1 O1 R) false [] [] shp K H O := by
  intro _
  refine ⟨H, [], O, fun v' H' O' => v' = v ∧ H' = H ∧ O' = [], Ghost.refl _ _, fun w F hm => ⟨v, w, H, [], h w, ⟨rfl, rfl, rfl⟩, Heap.le_refl _, hm⟩, ?_⟩
  rintro v' H' O' ⟨rfl, rfl, rfl⟩ _
  exact ⟨vs, [], [], ho, h1, trivial, rfl, hk⟩
theorem intr_val {P : Program} {f : FuncId} {args : List Value} {fn : Func} {e : Array Value → Sem Value} {v : Value} (hf : P.funcs[f]? = some fn) (hn : (fn.name == "runtime.NumGoroutine") = false) (hb : fn.body.isNone = true)
    (h1 : Extern.findNext fn = none) (h2 : Extern.find fn = some e) (hr : ∀ w, (e args.toArray).run P w = .ok v w) (w : World) : ((PrimOp.intr f).sem args).run P w = .ok (.value v) w := by
  simp only [PrimOp.sem, callFunc, Sem.run_bind, run_program, Result.andThen_ok, hf, hn, hb, h1, h2, if_true, Bool.false_eq_true, if_false]
  simp [hr]
theorem lss_eq (a b : Int) : evalPure (.bin .lss .int) [.int .i64 a, .int .i64 b] = some (.bool (decide (a < b))) := by simp [evalPure, evalBin, evalInt]
theorem gtr_eq (a b : Int) : evalPure (.bin .gtr .int) [.int .i64 a, .int .i64 b] = some (.bool (decide (a > b))) := by simp [evalPure, evalBin, evalInt]
theorem leq_eq (a b : Int) : evalPure (.bin .leq .int) [.int .i64 a, .int .i64 b] = some (.bool (decide (a ≤ b))) := by simp [evalPure, evalBin, evalInt]
theorem geq_eq (a b : Int) : evalPure (.bin .geq .int) [.int .i64 a, .int .i64 b] = some (.bool (decide (a ≥ b))) := by simp [evalPure, evalBin, evalInt]
theorem eql_eq (a b : Int) : evalPure (.bin .eql .int) [.int .i64 a, .int .i64 b] = some (.bool (a == b)) := by simp [evalPure, evalBin, evalInt]
theorem neq_eq (a b : Int) : evalPure (.bin .neq .int) [.int .i64 a, .int .i64 b] = some (.bool (a != b)) := by simp [evalPure, evalBin, evalInt]
theorem pick_eq (b : Bool) (x y : Value) : evalPure .pick [.bool b, x, y] = some (if b then x else y) := rfl
theorem not_eq' (b : Bool) : evalPure .not [.bool b] = some (.bool (!b)) := rfl


theorem call_retF {P : Program} {f : FuncId} {args : List Value} {H : Heap} {O : Own} {d : Bool} {frz : List BV} {shp : Shp} {K : List Value → List (List Value) → Heap → Own → Prop} {vs : List Value} (r : Value)
    (h : ∀ Hf, Heap.le H Hf → (∀ b ∈ frz, Hf b.r = some b.obj.2) → Ret P f args Hf r) (ho : shp.open r = some vs) (h1 : Ones vs)
    (hk : ∀ H', Heap.le H H' → (∀ b ∈ frz, H' b.r = some b.obj.2) → K vs [] H' O) : CallD (fun H1 O1 R => Triple P f args H1 O1 R) d frz [] shp K H O :=
  call_givesF (S := fun v _ => v = r) fun Hf hl hf => ⟨(h Hf hl hf).gives, fun v H' e hle => ⟨vs, by rw [e]; exact ho, h1, hk H' (Heap.le_trans hl hle) fun b hb => hle.1 _ _ (hf b hb)⟩⟩
theorem pick_or (b c : Bool) : evalPure .pick [.bool b, .bool true, .bool c] = some (.bool (b || c)) := by cases b <;> rfl
theorem pick_and (b c : Bool) : evalPure .pick [.bool b, .bool c, .bool false] = some (.bool (b && c)) := by cases b <;> rfl
theorem beql_eq (b c : Bool) : evalPure (.bin .eql .bool) [.bool b, .bool c] = some (.bool (b == c)) := rfl
theorem bneq_eq (b c : Bool) : evalPure (.bin .neq .bool) [.bool b, .bool c] = some (.bool (!(b == c))) := rfl
theorem Sl.of_arr {H : Heap} {size : Nat} {a : Addr} {rows : List (List Value)} (h : Arr H size a rows) {n : Nat} (hn : rows.length = n) (hb : n < 2 ^ 63) : Sl H size (.slice (some a) n n) rows := by
  subst hn; exact ⟨_, _, rfl, Nat.le_refl _, hb, fun _ => ⟨a, rfl, h⟩⟩
theorem ret_frz {P : Program} {v : Value} {own : List BV} {H : Heap} {O : Own} {Q : Value → Heap → Own → Prop} (h : ∀ H', Heap.le H H' → (∀ b ∈ own, H' b.r = some b.obj.2) → Q v H' O) : (Tree.ret v own).den P Q H O := by
  intro hc
  refine ⟨H.insAll own, O, fun w F hm => ?_, h _ (Heap.le_insAll own H) (insAll_get hc)⟩
  rw [List.append_assoc] at hm
  exact models_freeze hm
/-- The same, with own blocks that are left as they were. -/
def RetO (P : Program) (f : FuncId) (args : List Value) (H : Heap) (O : Own) (r : Value) : Prop := Triple P f args H O fun v _ O' => v = r ∧ O' = O
theorem call_retO {P : Program} {f : FuncId} {args : List Value} {H : Heap} {O : Own} {r : Value} {shp : Shp} {K : List Value → List (List Value) → Heap → Own → Prop} {vs : List Value}
    (h : RetO P f args H O r) (ho : shp.open r = some vs) (h1 : Ones vs) (hk : ∀ H', Heap.le H H' → K vs [] H' O) :
    CallD (fun H1 O1 R => Triple P f args H1 O1 R) false [] [] shp K H O := by
  intro _
  refine ⟨H, O, [], _, ?_, h, ?_⟩
  · rw [List.append_nil]; exact Ghost.refl _ _
  · rintro v H' O' ⟨rfl, rfl⟩ hle
    exact ⟨vs, [], O', ho, h1, trivial, rfl, by rw [List.append_nil]; exact hk H' hle⟩
theorem newCells_self : ∀ own : List BV, newCells own (own.map (·.vs)) = own
  | [] => rfl
  | b :: r => by rw [List.map_cons, newCells, newCells_self r]
theorem call_own {P : Program} {f : FuncId} {args : List Value} {H : Heap} {O : Own} {r : Value} {d : Bool} {own : List BV} {shp : Shp} {K : List Value → List (List Value) → Heap → Own → Prop} {vs : List Value}
    (h : RetO P f args H (own.map BV.obj) r) (ho : shp.open r = some vs) (h1 : Ones vs) (hf : Fits own (own.map (·.vs))) (hk : ∀ H', Heap.le H H' → K vs (own.map (·.vs)) H' O) :
    CallD (fun H1 O1 R => Triple P f args H1 O1 R) d [] own shp K H O := by
  intro _
  refine ⟨H, [], O, fun v _ O' => v = r ∧ O' = own.map BV.obj, ?_, by rw [List.append_nil]; exact h, ?_⟩
  · cases d
    · exact Ghost.refl _ _
    · exact ⟨rfl, rfl, rfl⟩
  · rintro v H' O' ⟨rfl, rfl⟩ hle
    exact ⟨vs, own.map (·.vs), [], ho, h1, hf, by rw [newCells_self, List.append_nil], hk H' hle⟩
theorem ret_denO {P : Program} {v : Value} {H : Heap} {O : Own} {Q : Value → Heap → Own → Prop} (h : Q v H O) : (Tree.ret v []).den P Q H O := fun _ => ⟨H, O, Ghost.refl _ _, h⟩
theorem flatOf_agg {P : Program} {T : TypeId} {r : List TypeId} {cs vs as : List Value} (hA : isAggT P T = true) {n : Nat} (hs : (szOf P T).getD 0 = n) (hl : cs.length = n) (h : flatOf P r as = some vs) : flatOf P (T :: r) (.agg cs.toArray :: as) = some (cs ++ vs) := by
  simp only [flatOf, hA, if_true]
  rw [if_pos (by simp [hs, hl]), h]
  rfl
theorem flatOf_one {P : Program} {T : TypeId} {r : List TypeId} {a : Value} {vs as : List Value} (hA : isAggT P T = false) (h : flatOf P r as = some vs) : flatOf P (T :: r) (a :: as) = some (a :: vs) := by
  simp only [flatOf, hA, Bool.false_eq_true, if_false, h, Option.map_some]
theorem entry_of {P : Program} {fn : Func} {Ts : List TypeId} {args vs : List Value} (hT : fn.params.toList ++ List.replicate fn.nfree 0 = Ts) (hn : Nat.ble (fn.params.size + fn.nfree) fn.ntmps = true) (h : flatOf P Ts args = some vs) :
    entryArgs P fn args = some vs := by
  unfold entryArgs
  rw [if_pos (Nat.le_of_ble_eq_true hn), hT, h]
theorem g_lt {c d : List Value} {n i : Nat} (hc : c.length = n) (hi : Nat.ble (i + 1) n = true) : g (c ++ d) i = g c i := g_append_left (by rw [hc]; exact Nat.le_of_ble_eq_true hi)
theorem range_take {c d : List Value} {n : Nat} (hc : c.length = n) : (List.range' 0 n).map (g (c ++ d)) = c := by
  subst hc
  refine List.ext_getElem (by simp) fun i h1 h2 => ?_
  rw [List.getElem_map, List.getElem_range', Nat.one_mul, Nat.zero_add, g_append_left h2]
  simp [g, h2]
theorem ones_range {vs : List Value} (ho : Ones vs) : ∀ (n i : Nat), i + n ≤ vs.length → Ones ((List.range' i n).map (g vs))
  | 0, _, _ => trivial
  | n + 1, i, h => by
    rw [List.range'_succ, List.map_cons]
    exact ⟨ho.get i (by omega), ones_range ho n (i + 1) (by omega)⟩
theorem take_one {r : List Value} {i : Nat} (h : i < r.length) : (r.drop i).take 1 = [g r i] := by
  rw [g_get (List.getElem?_eq_getElem h)]
  refine List.ext_getElem? fun j => ?_
  rw [List.getElem?_take]
  cases j with
  | zero => simp [h]
  | succ j => simp
theorem g_ge {c d : List Value} {n i : Nat} (hc : c.length = n) (j : Nat) (hi : n + j = i) : g (c ++ d) i = g d j := by subst hi; subst hc; exact g_append_right
end Go.Sx
