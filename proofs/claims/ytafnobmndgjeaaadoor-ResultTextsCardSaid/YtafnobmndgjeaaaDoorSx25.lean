/- Small words for the walks: options, calls that hand back one value, loads. -/
import Derived.Test.YtafnobmndgjeaaaDoorSx24
namespace Go.Sx
open Go

def okFnB (P : Program) (f : FuncId) : Bool :=
  match P.funcs[f]? with
  | some fn => !(fn.name == "runtime.NumGoroutine") && !fn.body.isNone
  | none => false
def lookOf {α : Type} (l : List (Nat × α)) (n : Nat) : Option α :=
  match l with
  | [] => none
  | (k, a) :: r => if k = n then some a else lookOf r n
def mkOpts (ok : List Nat) (rules : List (Nat × List Nat)) (loops : List (Nat × LMode)) (cuts : List (Nat × List Nat × List Nat × List (Nat × List Nat))) : Opts :=
  { okf := fun f => ok.contains f, rules := lookOf rules, loop := fun n => (lookOf loops n).getD (.unroll 20), cut := lookOf cuts }
theorem mkOpts_ok {P : Program} {ok : List Nat} (h : ok.all (okFnB P) = true) (rules : List (Nat × List Nat)) (loops : List (Nat × LMode)) (cuts : List (Nat × List Nat × List Nat × List (Nat × List Nat))) :
    ∀ f, (mkOpts ok rules loops cuts).okf f = true → OkFn P f := by
  intro f hf
  have hm : f ∈ ok := by simpa [mkOpts] using hf
  have := List.all_eq_true.1 h f hm
  unfold okFnB at this
  split at this
  · rename_i fn hfn
    simp only [Bool.and_eq_true, Bool.not_eq_true'] at this
    exact ⟨fn, hfn, this.1, this.2⟩
  · cases this

/-- A call hands back the value r, and that is all. -/
def Ret (P : Program) (f : FuncId) (args : List Value) (H : Heap) (r : Value) : Prop := Triple P f args H [] fun v _ O' => v = r ∧ O' = []
/-- A call hands back a value of which S holds, in the grown memory. -/
def Gives (P : Program) (f : FuncId) (args : List Value) (H : Heap) (S : Value → Heap → Prop) : Prop := Triple P f args H [] fun v H' O' => S v H' ∧ O' = []
theorem Ret.gives {P : Program} {f : FuncId} {args : List Value} {H : Heap} {r : Value} (h : Ret P f args H r) : Gives P f args H fun v _ => v = r := h

theorem call_gives {P : Program} {f : FuncId} {args : List Value} {H : Heap} {O : Own} {S : Value → Heap → Prop} {d : Bool} {shp : Shp} {K : List Value → List (List Value) → Heap → Own → Prop}
    (h : Gives P f args H S) (hk : ∀ v H', S v H' → Heap.le H H' → ∃ vs, shp.open v = some vs ∧ Ones vs ∧ K vs [] H' O) :
    CallD (fun H1 O1 R => Triple P f args H1 O1 R) d [] [] shp K H O := by
  intro _
  refine ⟨H, [], O, _, ?_, h, fun v H' O' hq hle => ?_⟩
  · cases d
    · exact Ghost.refl _ _
    · exact ⟨rfl, rfl, rfl⟩
  · obtain ⟨hs, rfl⟩ := hq
    obtain ⟨vs, h1, h2, h3⟩ := hk v H' hs hle
    exact ⟨vs, [], [], h1, h2, trivial, rfl, h3⟩
theorem call_ret {P : Program} {f : FuncId} {args : List Value} {H : Heap} {O : Own} {r : Value} {d : Bool} {shp : Shp} {K : List Value → List (List Value) → Heap → Own → Prop} {vs : List Value}
    (h : Ret P f args H r) (ho : shp.open r = some vs) (h1 : Ones vs) (hk : ∀ H', Heap.le H H' → K vs [] H' O) :
    CallD (fun H1 O1 R => Triple P f args H1 O1 R) d [] [] shp K H O :=
  call_gives h fun v H' e hle => ⟨vs, by rw [e]; exact ho, h1, hk H' hle⟩
/-- The tree's end, where nothing is owned. -/
theorem ret_den {P : Program} {v : Value} {H : Heap} {O : Own} {Q : Value → Heap → Own → Prop} (h : Q v H O) : (Tree.ret v []).den P Q H O :=
  fun _ => ⟨H, O, Ghost.refl _ _, h⟩
theorem pure_den {P : Program} {op : POp} {args : List Value} {k : Value → Tree} {H : Heap} {O : Own} {Q : Value → Heap → Own → Prop} (v : Value) (h : evalPure op args = some v) (hk : (k v).den P Q H O) :
    (Tree.pure [] op args k).den P Q H O := ⟨v, fun _ => h, .inl rfl, hk⟩
theorem load_den {P : Program} {p : Value} {m : Nat} {vs : List Value} {k : List Value → Tree} {H : Heap} {O : Own} {Q : Value → Heap → Own → Prop} (h : H.read p m = some vs) (hl : vs.length = m) (ho : Ones vs)
    (hk : (k vs).den P Q H O) : (Tree.load [] p m k).den P Q H O := ⟨vs, hl, ho, fun _ => .inl h, hk⟩
theorem br_den {P : Program} {b : Bool} {t e : Tree} {H : Heap} {O : Own} {Q : Value → Heap → Own → Prop} (h1 : b = true → t.den P Q H O) (h2 : b = false → e.den P Q H O) :
    (Tree.br (.bool b) t e).den P Q H O := ⟨b, rfl, h1, h2⟩
theorem newbox_den {P : Program} {k : Nat → Tree} {H : Heap} {O : Own} {Q : Value → Heap → Own → Prop} (h : ∀ r, (k r).den P Q H O) : (Tree.newbox k).den P Q H O := h
theorem chkN_den {P : Program} {a : Nat} {t : Tree} {H : Heap} {O : Own} {Q : Value → Heap → Own → Prop} (h : t.den P Q H O) : (Tree.chk (.eqN a a) t).den P Q H O := ⟨rfl, h⟩
theorem chkV_den {P : Program} {a : Value} {t : Tree} {H : Heap} {O : Own} {Q : Value → Heap → Own → Prop} (h : t.den P Q H O) : (Tree.chk (.eqV a a) t).den P Q H O := ⟨rfl, h⟩
theorem chkP_den {P : Program} {g : Gd} {v : Value} {t : Tree} {H : Heap} {O : Own} {Q : Value → Heap → Own → Prop} (hp : isPtr v = true) (h : t.den P Q H O) : (Tree.chk (.ptr g v) t).den P Q H O := ⟨fun _ => hp, h⟩

theorem ghost_ex {H : Heap} {O : Own} : (∃ x, Ghost H O x O) ↔ True := ⟨fun _ => trivial, fun _ => ⟨H, Ghost.refl H O⟩⟩

theorem triple_run {P : Program} (hm : P.follows .mixedOrders = true) {opts : Opts} (hokf : ∀ f, opts.okf f = true → OkFn P f) {f : FuncId} {fn : Func} (hf : P.funcs[f]? = some fn)
    {T : List Value → Tree} (ht : ∀ vs, sxFun P fn opts vs = T vs) {args vs : List Value} (ha : entryArgs P fn args = some vs) (ho : Ones vs) {H : Heap} {O : Own} {Q : Value → Heap → Own → Prop} (h : (T vs).den P Q H O) :
    Triple P f args H O Q := triple_of_sx hm hokf hf ha ho (by rw [ht]; exact h)
end Go.Sx
