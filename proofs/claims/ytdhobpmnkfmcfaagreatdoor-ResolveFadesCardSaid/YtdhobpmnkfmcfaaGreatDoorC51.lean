/- Legal targets; light cards; lists that are equal. -/
import Derived.Test.YtdhobpmnkfmcfaaGreatDoorC48
import Derived.Test.YtdhobpmnkfmcfaaGreatDoorKT
import Derived.Test.YtdhobpmnkfmcfaaGreatDoorC32
import Derived.Test.YtdhobpmnkfmcfaaGreatDoorM17
import Derived.Test.YtdhobpmnkfmcfaaGreatDoorRW
import Derived.Test.YtdhobpmnkfmcfaaGreatDoorC1
import Derived.Test.YtdhobpmnkfmcfaaGreatDoorC8
import Derived.Test.YtdhobpmnkfmcfaaGreatDoorKN
namespace Go.Proofs.YtdhobpmnkfmcfaaGreatDoor
open Go Go.Sx
set_option maxRecDepth 100000
set_option maxHeartbeats 1000000
theorem PN (o p : Tg) : FD PP (.eqv .eql az false) [.agg o.row.toArray, .agg p.row.toArray] = some (.bool (o == p)) := by
 have e : FD PP (.eqv .eql az false) [.agg o.row.toArray, .agg p.row.toArray] = (Ab [o.id == p.id, o.player == p.player]).map fun b => .bool b := by kernel_rfl
 rw [e, lN]
 simp only [Option.map_some, Option.some.injEq, Value.bool.injEq]
 cases o; cases p
 rw [Bool.eq_iff_iff]
 simp
theorem Ha {l : List Tg} {i : Nat} (h : i < l.length) : (cO l)[i]? = some l[i].row := by simp [cO, h]
theorem sU (t : Tg) : Ones t.row := ⟨rfl, rfl, trivial⟩
theorem KW {H : Heap} {O : Own} {v : Value} {l : List Tg} (h : Sl H 2 v (cO l)) (t : Tg) : RetO PP dl [v, .agg t.row.toArray] H O (iV (gw (fun y => t == y) l 0)) := by
 refine fG (vs := v :: t.row) (by kernel_rfl) ⟨h.one, sU t⟩ ?_
 simp only [de]
 have hlen : aj .len [v] = some (iV l.length) := by have := h.len; rwa [cA] at this
 have hlB := h.lenB
 rw [cA] at hlB
 refine ae fun r0 => ?_
 refine ab _ hlen ?_
 refine bh l.length (fun i H' O' => O' = O ∧ Heap.le H H' ∧ gw (fun y => t == y) l 0 = gw (fun y => t == y) (l.drop i) i) ⟨rfl, Heap.le_refl H, by simp⟩ ?_
 rintro i H' O' hi - ⟨rfl, hle, hor⟩
 refine ab _ (aN _ _) (ak (fun hb => ?_) (fun hb => ?_))
 ·have hlt : i < l.length := by simpa using hb
  obtain ⟨a, h1, h2, h3, h4⟩ := (h.le hle).idx (k := .i64) (Ha hlt)
  refine aa ?_
  refine ab _ h1 (fL h2 h3 h4 ?_)
  refine pd (PN t l[i]) (ak (fun hc => ?_) (fun hc => ?_))
  ·refine ah ⟨?_, rfl⟩
   rw [hor, List.drop_eq_getElem_cons hlt, gw, if_pos hc]; rfl
  ·refine ab _ (aD (by omega)) (aS (by simp [Eqs, E]) hlt ⟨rfl, hle, ?_⟩)
   rw [hor, List.drop_eq_getElem_cons hlt, gw, if_neg (by rw [hc]; simp)]; rfl
 ·have hge : l.length ≤ i := by simpa using hb
  refine ah ⟨?_, rfl⟩
  rw [hor, List.drop_of_length_le hge]; rfl
theorem DZ {H : Heap} {O : Own} {v : Value} {l : List Tg} (h : Sl H 2 v (cO l)) (t : Tg) : RetO PP cG [v, .agg t.row.toArray] H O (.bool (l.any fun y => t == y)) := by
 refine eO (vs := v :: t.row) (by kernel_rfl) ⟨h.one, sU t⟩ ?_
 simp only [cE]
 refine ae fun r0 => ?_
 refine aa ?_
 refine ai (KW h t) rfl ⟨rfl, trivial⟩ fun H1 _ => ?_
 refine ab _ (eK _ _) (ah ⟨?_, rfl⟩)
 rw [← xd _ l 0 (by omega)]
def wT (cs : List Cd) (b : Bd) (p k : Int) (t : Tg) : Bool := (Ee cs b p k).any fun y => t == y
theorem NT {H : Heap} {cv : Value} {cs : List Cd} (hk : CardsS H cv cs) (hli : fu cs = true) {v : dr} {b : Bd} (h : BdS H v b) (hst : b.stack.length ≤ 1000000) (p k : Int) (t : Tg) :
  RetO PP qw [cv, .agg (am v b).toArray, iV p, iV k, .agg t.row.toArray] H [] (.bool (wT cs b p k t)) := by
 refine uY (vs := cv :: (am v b ++ (iV p :: iV k :: t.row))) (by kernel_rfl) ⟨hk.one, ar (an (h.r [])) ⟨rfl, rfl, sU t⟩⟩ ?_
 simp only [qd]
 refine ae fun r0 => ae fun r1 => ?_
 refine aa (aa ?_)
 refine ao (NR hk hli h hst p k) ?_
 rintro x H1 _ ⟨hx, rfl⟩ l1
 refine ⟨[x], rfl, ⟨hx.one, trivial⟩, ?_⟩
 refine ai (DZ hx t) rfl ⟨rfl, trivial⟩ fun H2 _ => ?_
 exact ah ⟨rfl, rfl⟩
theorem Cf {P : Program} {f : FuncId} {args : List Value} {H : Heap} {O : Own} {frz : List BV} {r : Value} {shp : Shp} {vs : List Value} {K : List Value → List (List Value) → Heap → Own → Prop}
  (h : ∀ Hf, Heap.le H Hf → (∀ b ∈ frz, Hf b.r = some b.obj.2) → RetO P f args Hf [] r) (ho : shp.open r = some vs) (h1 : Ones vs) (hk : ∀ H', Heap.le H H' → K vs [] H' O) :
  dG (fun H1 O1 R => Triple P f args H1 O1 R) false frz [] shp K H O := by
 intro hc
 have hf := fM hc
 refine ⟨H.insAll frz, [], O, _, Ghost.refl _ _, h _ (Heap.le_insAll frz H) hf, ?_⟩
 rintro v H' O' ⟨rfl, rfl⟩ hle
 exact ⟨vs, [], [], ho, h1, trivial, rfl, hk _ (Heap.le_trans (Heap.le_insAll frz H) hle)⟩
theorem NS {H : Heap} {v : Value} {tg : List Int} (h : EffsS H v tg) (hb : tg.length ≤ 1000000) : Triple PP qu [v] H [] fun r _ O' => OSl ir 1 r (aF (fS tg)) O' := by
 refine uX (vs := [v]) (by kernel_rfl) ⟨h.one, trivial⟩ ?_
 simp only [qc]
 refine ab _ h.len ?_
 refine iq tg.length (fun i x H' O' => Heap.le H H' ∧ OSl ir 1 x (aF (fS (tg.take i))) O') ⟨Heap.le_refl _, OSl.nil _ _⟩ ?_
 rintro i x H' O' hi - ⟨hle, hx⟩
 refine ab _ (aN _ _) (ak (fun hb => ?_) (fun hb => ?_))
 ·have hlt : i < tg.length := by simpa using hb
  obtain ⟨a, r, k1, k2, k3, k4, k5, _⟩ := I1 (O := O') (h.le hle) hlt
  have hft := jQ (p := fun t : Int => t != 0) hlt
  refine ab _ k1 (ax (iC k2) k3 k4 (ae fun r0 => ?_))
  refine aa (aa ?_)
  rw [k5]
  refine ab _ (aV _ _) ?_
  refine ak (fun hc => ?_) (fun hc => ?_)
  ·have hc : (tg[i] != 0) = true := hc
   have hlen : (fS (tg.take i)).length ≤ 1000000 := by rw [fS]; exact Nat.le_trans (List.length_filter_le _ _) (by rw [List.length_take]; omega)
   refine aa ?_
   refine ae fun r2 => ?_
   refine ay (rows := aF (fS (tg.take i))) (news := [[iV tg[i]]]) (O1 := O') (O2 := []) (e := ir) (size := 1) (bytes := 8) (by kernel_rfl) (by simp) hx (fun Hf _ hf => Sl.block1 (hf _ List.mem_cons_self) rfl ⟨rfl, trivial⟩) (by rw [aF, List.length_map, List.length_singleton]; omega) (by rw [aF, List.length_map, List.length_singleton]; omega) ?_
   intro v' A' H6 l6 hA'
   refine ab _ (aD (by omega)) (bf (by simp [Eqs]) hlt ⟨Heap.le_trans hle l6, ?_⟩)
   rw [List.append_nil, fS, hft, if_pos hc, aF, List.map_append]; exact hA'
  ·have hc : (tg[i] != 0) = false := hc
   refine ab _ (aD (by omega)) (bf (by simp [Eqs]) hlt ⟨hle, ?_⟩)
   rw [fS, hft, if_neg (by rw [hc]; simp), List.append_nil]; exact hx
 ·have hge : tg.length ≤ i := by simpa using hb
  rw [List.take_of_length_le hge] at hx
  exact ah hx
theorem Lc {cs : List Cd} {b : Bd} {p x : Int} : x ∈ yy cs b p ↔ x ∈ vy cs b p ∨ x ∈ vy cs b (1 - p) := by
 rw [yy, (sX _).mem_iff, List.mem_append]
theorem Be : ∀ {l : List (Int × Int)} {a p : Int}, (l.map (·.1)).Nodup → (a, p) ∈ l → l.Perm ((a, p) :: l.filter fun q => q.1 != a)
 | [], _, _, _, h => by simp at h
 | q :: l, a, p, hn, h => by
  rw [List.map_cons, List.nodup_cons] at hn
  rcases List.mem_cons.1 h with rfl | h
  ·have e : l.filter (fun q => q.1 != a) = l := by
    rw [List.filter_eq_self]
    intro x hx
    simp only [bne_iff_ne, ne_eq]
    rintro rfl
    exact hn.1 (List.mem_map.2 ⟨x, hx, rfl⟩)
   rw [List.filter_cons, if_neg (by simp), e]
  ·have hne : q.1 ≠ a := fun e => hn.1 (List.mem_map.2 ⟨(a, p), h, e.symm⟩)
   rw [List.filter_cons, if_pos (by simpa using hne)]
   exact ((Be hn.2 h).cons q).trans (List.Perm.swap _ _ _)
theorem Bg (s : St) (id p : Int) : cj (MQ s id) p = (cj s p).filter fun q => q.1 != id := by
 simp only [cj, MQ, bW, List.filter_map, List.filter_append, List.map_append, Function.comp_def]
theorem Cc (l : List It) (id : Int) : bD (l.filter fun x => !iQ id x) = (bD l).filter fun x => x.id != id := by
 rw [bD, bD, List.filter_filter, List.filter_filter]
 refine List.filter_congr fun x _ => ?_
 simp only [iQ]
 cases decide (x.trig < 0)
 ·simp
 ·simp [bne]
theorem HI (l : List It) (id : Int) : ej (l.filter fun x => !iQ id x) = (ej l).filter fun q => q.1 != id := by
 rw [ej, ej, Cc, List.filter_map]; rfl
theorem Gq (l : List It) (id : Int) : aZ (l.filter fun x => !iQ id x) = (aZ l).filter fun q => q.1 != id := by
 rw [aZ, aZ, Cc, List.filter_map]; rfl
theorem FQ (b : Bd) (id : Int) : aI (kl b id) = (aI b).filter fun q => q.1 != id := by
 have e0 : (kl b id).s0 = MQ b.s0 id := rfl
 have e1 : (kl b id).s1 = MQ b.s1 id := rfl
 have e2 : (kl b id).stack = b.stack.filter fun x => !iQ id x := rfl
 rw [aI, aI, e0, e1, e2, Bg, Bg, HI, List.filter_append, List.filter_append]
theorem Bf (s : St) {z : Int} (hz : z = 0 ∨ z = 1 ∨ z = 2 ∨ z = 3) (id p : Int) : (cj (Do s z id) p).Perm ((id, p) :: cj s p) := by
 have key : ∀ {a b c d : List Int}, (a ++ ([id] ++ (b ++ (c ++ d)))).Perm (id :: (a ++ (b ++ (c ++ d)))) := fun {a b c d} => List.perm_middle
 rcases hz with rfl | rfl | rfl | rfl
 ·have e : (Do s 0 id) = { s with lib := s.lib ++ [id] } := rfl
  rw [e, cj, cj, ← List.map_cons (f := fun i => (i, p))]
  refine List.Perm.map _ ?_
  show (s.lib ++ [id] ++ (s.hand ++ (s.field ++ s.grave))).Perm _
  rw [List.append_assoc]; exact List.perm_middle
 ·have e : (Do s 1 id) = { s with hand := s.hand ++ [id] } := rfl
  rw [e, cj, cj, ← List.map_cons (f := fun i => (i, p))]
  refine List.Perm.map _ ?_
  show (s.lib ++ (s.hand ++ [id] ++ (s.field ++ s.grave))).Perm _
  rw [List.append_assoc, ← List.append_assoc s.lib]
  refine List.perm_middle.trans ?_
  rw [List.append_assoc]
  exact List.Perm.refl _
 ·have e : (Do s 2 id) = { s with field := s.field ++ [id] } := rfl
  rw [e, cj, cj, ← List.map_cons (f := fun i => (i, p))]
  refine List.Perm.map _ ?_
  show (s.lib ++ (s.hand ++ (s.field ++ [id] ++ s.grave))).Perm _
  rw [List.append_assoc, ← List.append_assoc s.hand, ← List.append_assoc s.lib]
  refine List.perm_middle.trans ?_
  rw [List.append_assoc, List.append_assoc]
  exact List.Perm.refl _
 ·have e : (Do s 3 id) = { s with grave := s.grave ++ [id] } := rfl
  rw [e, cj, cj, ← List.map_cons (f := fun i => (i, p))]
  refine List.Perm.map _ ?_
  show (s.lib ++ (s.hand ++ (s.field ++ (s.grave ++ [id])))).Perm _
  rw [← List.append_assoc, ← List.append_assoc, ← List.append_assoc]
  refine List.perm_append_comm.trans ?_
  show (id :: _).Perm _
  rw [List.append_assoc, List.append_assoc]
  exact List.Perm.refl _
theorem yI (b : Bd) {p : Int} (hp : p = 0 ∨ p = 1) {z : Int} (hz : z = 0 ∨ z = 1 ∨ z = 2 ∨ z = 3) (id : Int) : (aI (jM b p z id)).Perm ((id, p) :: aI b) := by
 rcases hp with rfl | rfl
 ·exact (Bf b.s0 hz id 0).append_right _
 ·refine List.Perm.trans ((((Bf b.s1 hz id 1).append_right _).append_left _)) ?_
  exact List.perm_middle
theorem Dy {l : List (Int × Int)} {id x v : Int} (h : bX (l.filter fun q => q.1 != id) x = some v) : bX l x = some v := by
 induction l with
 | nil => exact h
 | cons q l ih =>
  by_cases hq : q.1 = id
  ·rw [List.filter_cons, if_neg (by simp [hq])] at h
   have h2 := ih h
   have hx : x ≠ id := by
    rintro rfl
    have : bX (l.filter fun q => q.1 != x) x = none := by
     rw [eL]
     intro hm
     obtain ⟨y, hy, e⟩ := List.mem_map.1 hm
     have := (List.mem_filter.1 hy).2
     simp [e] at this
    rw [this] at h; cases h
   have hne : (x == q.1) = false := by rw [hq]; simpa using hx
   simp only [bX, List.find?_cons, hne] at h2 ⊢
   exact h2
  ·rw [List.filter_cons, if_pos (by simpa using hq)] at h
   simp only [bX, List.find?_cons] at h ih ⊢
   cases hxq : (x == q.1)
   ·rw [hxq] at h
    exact ih h
   ·rw [hxq] at h
    exact h
theorem Ba {b c : Bd} (h : bu aP b = true) (hp : (aI b).Perm (aI c)) (ho : c.objs = b.objs) (hc : ∀ x v, bX (aZ c.stack) x = some v → bX (aZ b.stack) x = some v) : bu aP c = true := by
 obtain ⟨p1, p2, p3⟩ := fq h
 have hn := cB h
 rw [← gK] at hn
 simp only [bu, Bool.and_eq_true, decide_eq_true_eq, lC, ho]
 refine ⟨(hp.map _).nodup_iff.1 hn, ⟨p1, ?_⟩, by rw [← hp.length_eq]; exact p3⟩
 rw [List.all_eq_true] at p2 ⊢
 intro o hm
 have h1 := p2 o hm
 simp only [ok1, Bool.and_eq_true] at h1 ⊢
 rw [← tq hn hp]
 refine ⟨h1.1, h1.2.1, h1.2.2.1, ?_⟩
 have h2 := h1.2.2.2
 cases e : bX (aZ c.stack) o.id with
 | none => rfl
 | some v => rw [hc _ _ e] at h2; exact h2
theorem D8 {att other att' other' : List Int} {id : Int} (ha : ∀ y ∈ att, y ≠ id → y ∈ att') (ho : ∀ y ∈ other, y ≠ id → y ∈ other') :
  ∀ {bl : List Bl} {ua ub ua' ub' : List Int}, (∀ y ∈ ua', y ∈ ua) → (∀ y ∈ ub', y ∈ ub) → tO att other ua ub bl = true → tO att' other' ua' ub' (bl.filter fun x => !ee id x) = true
 | [], _, _, _, _, _, _, _ => rfl
 | x :: bl, ua, ub, ua', ub', h1, h2, h => by
  simp only [tO, Bool.and_eq_true, Bool.not_eq_true', List.contains_iff_mem, ← Bool.not_eq_true] at h
  obtain ⟨⟨⟨q1, q2⟩, q3, q4⟩, q5⟩ := h
  by_cases hx : ee id x = true
  ·rw [List.filter_cons, if_neg (by simp [hx])]
   exact D8 ha ho (fun y hy => List.mem_cons_of_mem _ (h1 y hy)) (fun y hy => List.mem_cons_of_mem _ (h2 y hy)) q5
  ·rw [List.filter_cons, if_pos (by simpa using hx)]
   simp only [ee, Bool.or_eq_true, beq_iff_eq, not_or] at hx
   simp only [tO, Bool.and_eq_true, Bool.not_eq_true', List.contains_iff_mem, ← Bool.not_eq_true]
   refine ⟨⟨⟨fun hy => q1 (h1 _ hy), ha _ q2 hx.2⟩, fun hy => q3 (h2 _ hy), ho _ q4 hx.1⟩, ?_⟩
   refine D8 ha ho (fun y hy => ?_) (fun y hy => ?_) q5
   ·rcases List.mem_cons.1 hy with rfl | hy
    ·exact List.mem_cons_self
    ·exact List.mem_cons_of_mem _ (h1 y hy)
   ·rcases List.mem_cons.1 hy with rfl | hy
    ·exact List.mem_cons_self
    ·exact List.mem_cons_of_mem _ (h2 y hy)
theorem qP {l : List Int} {id y : Int} : y ∈ bW l id ↔ y ∈ l ∧ y ≠ id := by rw [bW, List.mem_filter, bne_iff_ne]
theorem mE {own other own' other' att : List Int} {bl : List Bl} {id : Int} (ha : ∀ y ∈ own, y ≠ id → y ∈ own') (ho : ∀ y ∈ other, y ≠ id → y ∈ other') (h : iL own other att bl = true) :
  iL own' other' (bW att id) (bl.filter fun x => !ee id x) = true := by
 simp only [iL, Bool.and_eq_true, decide_eq_true_eq, List.all_eq_true, List.contains_iff_mem] at h ⊢
 refine ⟨h.1.filter _, fun x hx => ?_, D8 (fun y hy hne => qP.2 ⟨hy, hne⟩) ho (fun _ h => h) (fun _ h => h) h.2.2⟩
 obtain ⟨h1, h2⟩ := qP.1 hx
 exact ha x (h.2.1 x h1) h2
theorem yN {b : Bd} {k : Nat} {o : Ob} {z : Int} (ho : o.owner = 0 ∨ o.owner = 1) (hz : z = 0 ∨ z = 1 ∨ z = 2 ∨ z = 3) {q : Int} (hq : q = 0 ∨ q = 1) (y : Int) :
  y ∈ (au (eo b k o z) q).field ↔ (y ∈ (au b q).field ∧ y ≠ o.id) ∨ (y = o.id ∧ z = 2 ∧ q = o.owner) := by
 rw [eo]
 generalize o.id = id
 rcases ho with h | h <;> rw [h] <;> rcases hq with rfl | rfl <;> rcases hz with rfl | rfl | rfl | rfl <;> simp [jM, aW, au, Do, du, kl, MQ, qP]
theorem rH {b : Bd} {k : Nat} {o : Ob} {z : Int} : (eo b k o z).objs = b.objs.set k o := by
 rw [eo, jM, aW]; split <;> rfl
theorem pe {b : Bd} {k : Nat} {o : Ob} {z : Int} : (eo b k o z).stack = b.stack.filter fun x => !iQ o.id x := by
 rw [eo, jM, aW]; split <;> rfl
theorem FZ {b : Bd} {k : Nat} {o : Ob} {z : Int} : be (eo b k o z).s0 = be b.s0 ∧ be (eo b k o z).s1 = be b.s1 := by
 have hz : ∀ (s : St) (id : Int), be (Do s z id) = be s := fun s id => by
  rw [Do]
  split
  ·rfl
  split
  ·rfl
  split
  ·rfl
  split
  ·rfl
  ·rfl
 rw [eo, jM, aW]
 split
 ·rename_i h
  refine ⟨?_, rfl⟩
  show be (Do (au (du (kl b o.id) k o) o.owner) z o.id) = _
  rw [hz, au, if_pos h]; rfl
 ·rename_i h
  refine ⟨rfl, ?_⟩
  show be (Do (au (du (kl b o.id) k o) o.owner) z o.id) = _
  rw [hz, au, if_neg h]; rfl
theorem Ib {b : Bd} {k : Nat} {o : Ob} {z : Int} : (eo b k o z).att = bW b.att o.id ∧ (eo b k o z).blocks = b.blocks.filter (fun x => !ee o.id x) ∧ (eo b k o z).active = b.active ∧ (eo b k o z).turn = b.turn ∧ (eo b k o z).phase = b.phase ∧ (eo b k o z).holder = b.holder ∧ (eo b k o z).passes = b.passes ∧ (eo b k o z).queue = b.queue := by
 rw [eo, jM, aW]; split <;> exact ⟨rfl, rfl, rfl, rfl, rfl, rfl, rfl, rfl⟩
theorem yL {b : Bd} (h : al b = true) {k : Nat} {o : Ob} (hk : b.objs[k]? = some o) {z : Int} (hz : z = 0 ∨ z = 1 ∨ z = 2 ∨ z = 3) : al (eo b k (bm o z) z) = true := by
 have hpl := (aJ h).1
 obtain ⟨hvo, hmem, _, hown⟩ := dN hpl hk
 generalize hob : bm o z = o'
 have i1 : o'.id = o.id := by rw [← hob]; rfl
 have i2 : o'.owner = o.owner := by rw [← hob]; rfl
 have i3 : o'.card = o.card := by rw [← hob]; rfl
 have hvo' : aP o' = true := by rw [← hob]; exact tY z hvo
 have hown' : o'.owner = 0 ∨ o'.owner = 1 := by rw [i2]; exact hown
 have hset := yE hpl hk i1 i2 i3 hvo'
 obtain ⟨r1, r2, r3, r4, r5, r6, r7, r8⟩ := Ib (b := b) (k := k) (o := o') (z := z)
 obtain ⟨s0, s1⟩ := FZ (b := b) (k := k) (o := o') (z := z)
 have hplm : bu aP (eo b k o' z) = true := by
  refine Ba hset ?_ rH fun x v hx => ?_
  ·have hn := cB hpl
   rw [← gK] at hn
   have e : aI (du (kl b o'.id) k o') = (aI b).filter fun q => q.1 != o'.id := by rw [show aI (du (kl b o'.id) k o') = aI (kl b o'.id) from rfl, FQ]
   have p1 := Be hn hmem
   have p2 := yI (du (kl b o'.id) k o') hown' hz o'.id
   rw [e, i1, i2] at p2
   rw [eo, i1, i2]
   exact p1.trans p2.symm
  ·rw [pe, Gq] at hx
   exact Dy hx
 have hf : dO (eo b k o' z) = true := by
  have h0 := (aJ h).2.1
  have f0 : ∀ y ∈ b.s0.field, y ≠ o'.id → y ∈ (eo b k o' z).s0.field := fun y hy hne => (yN (b := b) (k := k) hown' hz (q := 0) (.inl rfl) y).2 (.inl ⟨hy, hne⟩)
  have f1 : ∀ y ∈ b.s1.field, y ≠ o'.id → y ∈ (eo b k o' z).s1.field := fun y hy hne => (yN (b := b) (k := k) hown' hz (q := 1) (.inr rfl) y).2 (.inl ⟨hy, hne⟩)
  rw [dO] at h0 ⊢
  rw [r1, r2, r3]
  split
  ·rename_i ha
   rw [if_pos ha] at h0
   exact mE f0 f1 h0
  ·rename_i ha
   rw [if_neg ha] at h0
   exact mE f1 f0 h0
 have hlen : (eo b k o' z).objs.length = b.objs.length := by rw [rH, List.length_set]
 have hsl : (eo b k o' z).stack.length ≤ b.stack.length := by rw [pe]; exact List.length_filter_le _ _
 have hany : ((eo b k o' z).stack.any fun x => !jr x false) = false := by
  rw [List.any_eq_false]
  intro x hx
  rw [pe] at hx
  have h4 := (aJ h).2.2.2
  rw [List.all_eq_true] at h4
  rw [h4 x (List.mem_filter.1 hx).1]; simp
 simp only [al, nZ, Bool.and_eq_true, Bool.not_eq_true', Bool.or_eq_false_iff, decide_eq_false_iff_not] at h ⊢
 obtain ⟨a1, a2, a3, a4, ⟨⟨⟨a5, a6⟩, a7⟩, a8⟩, a9, a10, a11, a12, a13⟩ := h
 rw [r3, r4, r5, r6, r7, r8, hlen, s0, s1]
 exact ⟨a1, a2, a3, a4, ⟨⟨⟨a5, a6⟩, by omega⟩, a8⟩, a9, a10, hany, a12, hplm, hf⟩
theorem Ih {ks : List Int} {b : Bd} (h : al b = true) {q : Int} (hq : q = 0 ∨ q = 1) {x : Int} : x ∈ ia ks b q ↔ ∃ o ∈ b.objs, o.id = x ∧ o.owner = q ∧ rO ks o = true ∧ x ∈ (au b q).field := by
 have hw : ap q 0 1 = true := by simp only [ap, decide_eq_true_eq]; omega
 rw [ia, if_pos (by rw [hw, h]; rfl), List.mem_map]
 constructor
 ·rintro ⟨o, ho, rfl⟩
  obtain ⟨m, c⟩ := List.mem_filter.1 ho
  simp only [vn, Bool.and_eq_true, beq_iff_eq, List.contains_iff_mem] at c
  exact ⟨o, m, rfl, c.1, c.2.1, c.2.2⟩
 ·rintro ⟨o, m, rfl, c1, c2, c3⟩
  refine ⟨o, List.mem_filter.2 ⟨m, ?_⟩, rfl⟩
  simp only [vn, Bool.and_eq_true, beq_iff_eq, List.contains_iff_mem]
  exact ⟨c1, c2, c3⟩
theorem nX : ∀ {l m : List Int}, l.Nodup → (∀ x ∈ l, x ∈ m) → l.length ≤ m.length
 | [], _, _, _ => Nat.zero_le _
 | a :: l, m, h, hs => by
  rw [List.nodup_cons] at h
  have ha := hs a List.mem_cons_self
  have ih := nX (m := m.erase a) h.2 fun x hx => (List.mem_erase_of_ne (fun e => by rw [e] at hx; exact h.1 hx)).2 (hs x (List.mem_cons_of_mem _ hx))
  rw [List.length_erase_of_mem ha] at ih
  have := List.length_pos_of_mem ha
  rw [List.length_cons]; omega
section
variable {cs : List Cd} {b : Bd} (h : al b = true) {k : Nat} {o : Ob} (hk : b.objs[k]? = some o) {z : Int} (hz : z = 0 ∨ z = 1 ∨ z = 2 ∨ z = 3)
include h hk hz
end
theorem PH (H : Heap) : CdRX H GO PG := ⟨rfl, Sl.nil H 5, ⟨[], Sl.nil H 2, rfl, fun i r t h => by simp at h⟩⟩
theorem Il {H : Heap} {v : Value} {cs : List CdX} (h : CardsX H v cs) (c : Int) (hn : ¬ (c < 0 ∨ c ≥ (cs.length : Int))) :
  ∃ a r, aj (.idx 14) [v, iV c] = some (.pointer (some a)) ∧ H.read (.pointer (some a)) 14 = some r ∧ r.length = 14 ∧ Ones r ∧ CdRX H r (cdX cs c) := by
 obtain ⟨rows, h1, h2, h3⟩ := h
 have hlt : c.toNat < rows.length := by omega
 obtain ⟨a, k1, k2, k3, k4⟩ := h1.idx (k := .i64) (i := c.toNat) (List.getElem?_eq_getElem hlt)
 have hk : cs[c.toNat]? = some (cdX cs c) := by
  rw [cdX, if_neg hn, List.getD_eq_getElem?_getD, List.getElem?_eq_getElem (by omega)]; rfl
 refine ⟨a, _, ?_, k2, k3, k4, h3 c.toNat _ _ (List.getElem?_eq_getElem hlt) hk⟩
 rw [show iV c = iV (c.toNat : Int) by rw [Int.toNat_of_nonneg (by omega)]]; exact k1
def Qp (cs : List CdX) (c : Int) (v : Value) (H : Heap) : Prop := ∃ cells : List Value, v = .agg cells.toArray ∧ cells.length = 14 ∧ Ones cells ∧ CdRX H cells (cdX cs c)
theorem NM {H : Heap} {O : Own} {v : Value} {cs : List CdX} (h : CardsX H v cs) (o : Ob) : Triple PP jz [v, .agg o.row.toArray] H O fun r H' O' => Qp cs o.card r H' ∧ O' = O := by
 refine jK (vs := v :: o.row) (by kernel_rfl) ⟨h.one, bj o⟩ ?_
 simp only [jw]
 refine ae fun r0 => ae fun r1 => ?_
 refine aa ?_
 refine ab _ (aN _ _) ?_
 refine aa (af (af ?_))
 refine ab _ h.len ?_
 refine af (af (ab _ (og _ _) (af (ab _ (aM _ _) ?_))))
 refine ak (fun hb => ?_) (fun hb => ?_)
 ·have hb : (decide (o.card < 0) || decide (o.card ≥ (cs.length : Int))) = true := hb
  refine aa (aa ?_)
  refine ah ⟨⟨GO, rfl, rfl, ⟨rfl, rfl, rfl, rfl, rfl, rfl, rfl, rfl, rfl, rfl, rfl, rfl, rfl, rfl, trivial⟩, ?_⟩, rfl⟩
  rw [cdX, if_pos (by simpa using hb)]; exact PH H
 ·have hb : (decide (o.card < 0) || decide (o.card ≥ (cs.length : Int))) = false := hb
  obtain ⟨a, r, k1, k2, k3, k4, k5⟩ := Il h o.card (by simpa [Bool.or_eq_false_iff] using hb)
  refine aa ?_
  refine ab _ k1 (ax (iC k2) k3 k4 ?_)
  refine aa (aa ?_)
  exact ah ⟨⟨r, by rw [← zB k3]; rfl, k3, k4, k5⟩, rfl⟩
def Qz (v : Value) (trs : List (List Eff)) (O : Own) : Prop := ∃ rows A Ts, O.Perm (A ++ List.flatten Ts) ∧ OSl eM 2 v rows A ∧ rows.length = trs.length ∧ Ts.length = trs.length ∧
 ∀ (i : Nat) (r : List Value) (l : List Eff) (T : Own), rows[i]? = some r → trs[i]? = some l → Ts[i]? = some T → OSl dQ 5 (g r 1) (iR l) T
def Pq (c : CdX) (v : Value) (O : Own) : Prop := ∃ (cells : List Value) (A B : Own), v = .agg cells.toArray ∧ cells.length = 14 ∧ Ones cells ∧ g cells 1 = iV c.kind ∧ OSl dQ 5 (g cells 11) (iR c.effs) A ∧ Qz (g cells 12) c.trs B ∧ O.Perm (A ++ B)
theorem D6 {H : Heap} {cells : List Value} {c : CdX} (h : CdRX H cells c) (hl : cells.length = 14) (ho : Ones cells) (hli : mF c.base = true) :
  Triple PP qY [.agg cells.toArray] H [] fun r _ O' => Pq c r O' := by
 simp only [mF, CdX.base, Bool.and_eq_true, Bool.not_eq_true', Bool.or_eq_false_iff, decide_eq_false_iff_not, List.all_eq_true, List.length_map, List.mem_map, forall_exists_index, and_imp, forall_apply_eq_imp_iff₂] at hli
 obtain ⟨⟨b1, b2⟩, b3⟩ := hli
 obtain ⟨hk, he, ⟨trows, t1, t2, t3⟩⟩ := h
 refine rz (vs := cells) (by rw [← zB hl]; kernel_rfl) ho ?_
 simp only [qX]
 refine ae fun r0 => ae fun r1 => ?_
 refine aa (aa ?_)
 refine ao (vG he (by rw [lL]; omega)) fun x H1 O1 hx l1 => ⟨[x], rfl, ⟨hx.one, trivial⟩, ?_⟩
 refine ao (E9 (t1.le l1) (by omega)) fun y H2 O2 hy l2 => ⟨[y], rfl, ⟨hy.one, trivial⟩, ?_⟩
 have ylen := hy.len
 rw [t2] at ylen
 refine aa (aa (aa ?_))
 refine ab _ ylen ?_
 refine bh c.trs.length (fun i H' O' => Heap.le H2 H' ∧ ∃ rows' A Ts, O'.Perm (A ++ (List.flatten Ts ++ O1)) ∧ OSl eM 2 y rows' A ∧ rows'.length = c.trs.length ∧ Ts.length = i ∧
  (∀ (j : Nat) (r : List Value) (l : List Eff) (T : Own), rows'[j]? = some r → c.trs[j]? = some l → Ts[j]? = some T → OSl dQ 5 (g r 1) (iR l) T) ∧ ∀ j, i ≤ j → rows'[j]? = trows[j]?)
  ⟨Heap.le_refl _, trows, O2, [], by simp, hy, t2, rfl, fun j r l T _ _ h => by simp at h, fun _ _ => rfl⟩ ?_
 rintro i H' O' hi - ⟨hle, rows', A, Ts, hp, hA, hrl, htl, hspec, hrest⟩
 refine ab _ (aN _ _) (ak (fun hb => ?_) (fun hb => ?_))
 ·have hlt : i < c.trs.length := by simpa using hb
  have hri : rows'[i]? = some trows[i] := by rw [hrest i (Nat.le_refl _)]; exact List.getElem?_eq_getElem (by omega)
  have k1 := t3 i trows[i] c.trs[i] (List.getElem?_eq_getElem (by omega)) (List.getElem?_eq_getElem hlt)
  have hb3 := b3 _ (List.getElem_mem hlt)
  obtain ⟨a, i1, i2, i3, i4⟩ := hA.idx (fun p h => hp.mem_iff.2 (List.mem_append_left _ h)) H' (k := .i64) hri
  obtain ⟨w1, w2⟩ := hA.rows_ok hri
  refine ab _ i1 (ax i3 w1 w2 (ae fun r2 => ?_))
  refine aa (aa (aa ?_))
  refine ao (vG (k1.le (Heap.le_trans l1 (Heap.le_trans l2 hle))) (by rw [lL]; omega)) fun z H3 T hz l3 => ⟨[z], rfl, ⟨hz.one, trivial⟩, ?_⟩
  have hp2 : (T ++ O').Perm (A ++ (T ++ (List.flatten Ts ++ O1))) := (hp.append_left T).trans (List.perm_append_comm_assoc _ _ _)
  obtain ⟨a2, j1, j2⟩ := hA.store hp2 (k := .i64) hri
  obtain ⟨A', hst, hA'⟩ := j2 1 [z] (by simp [w1]) ⟨hz.one, trivial⟩
  have hsp : g (dc trows[i] 1 [z]) 1 = z := by
   match hm : trows[i], w1 with
   | [_, _], _ => rfl
  refine ab _ j1 ?_
  refine aH rfl (aH rfl ?_)
  refine ⟨_, hst, ?_⟩
  refine ab _ (aD (by omega)) (aS (by simp [Eqs]) hlt ⟨Heap.le_trans hle l3, _, A', Ts ++ [T], ?_, hA', by simp [hrl], by simp [htl], ?_, ?_⟩)
  ·refine List.Perm.append_left A' ?_
   rw [List.flatten_append, ← List.append_assoc]
   refine List.Perm.append_right O1 ?_
   simpa using List.perm_append_comm
  ·intro j r x T' h1 h2 h3
   by_cases hj : j = i
   ·subst hj
    rw [List.getElem?_set_self (by omega)] at h1
    rw [List.getElem?_eq_getElem hlt] at h2
    rw [List.getElem?_append_right (by omega), htl, Nat.sub_self] at h3
    simp only [Option.some.injEq, List.getElem?_cons_zero] at h1 h2 h3
    subst h1; subst h2; subst h3
    rw [hsp]; exact hz
   ·rw [List.getElem?_set_ne (by omega)] at h1
    have hjlt : j < Ts.length := by
     have := (List.getElem?_eq_some_iff.1 h3).1
     simp at this; omega
    rw [List.getElem?_append_left hjlt] at h3
    exact hspec j r x T' h1 h2 h3
  ·intro j hj
   rw [List.getElem?_set_ne (by omega)]
   exact hrest j (by omega)
 ·have hie : i = c.trs.length := by
   have : ¬ ((i : Int) < (c.trs.length : Int)) := by simpa using hb
   omega
  subst hie
  refine aa (aa (aa ?_))
  refine ah ⟨[g cells 0, g cells 1, g cells 2, g cells 3, g cells 4, g cells 5, g cells 6, g cells 7, g cells 8, g cells 9, g cells 10, x, y, g cells 13], O1, A ++ List.flatten Ts, rfl, rfl, ?_, hk, hx, ⟨rows', A, Ts, List.Perm.refl _, hA, hrl, htl, hspec⟩, ?_⟩
  ·exact ⟨cX ho (by omega), cX ho (by omega), cX ho (by omega), cX ho (by omega), cX ho (by omega), cX ho (by omega), cX ho (by omega), cX ho (by omega), cX ho (by omega), cX ho (by omega), cX ho (by omega), hx.one, hy.one, cX ho (by omega), trivial⟩
  ·refine hp.trans ?_
   rw [← List.append_assoc]
   exact List.perm_append_comm
theorem y9 {H : Heap} {v : Value} {cs : List CdX} (h : CardsX H v cs) (hli : fu (cs.map CdX.base) = true) (o : Ob) : Triple PP jA [v, .agg o.row.toArray] H [] fun r _ O' => Pq (cdX cs o.card) r O' := by
 refine nL (vs := v :: o.row) (by kernel_rfl) ⟨h.one, bj o⟩ ?_
 simp only [mL]
 refine ae fun r0 => ae fun r1 => ?_
 refine aa ?_
 refine ao (NM (O := []) h o) ?_
 rintro _ H1 _ ⟨⟨cells, rfl, k1, k2, k3⟩, rfl⟩ l1
 refine ⟨cells, by simp [Shp.open, k1], k2, ?_⟩
 have hrow := zB k1
 have hlc : mF (cdX cs o.card).base = true := by rw [E4]; exact vz hli _
 refine ao (D6 (cells := [g cells 0, g cells 1, g cells 2, g cells 3, g cells 4, g cells 5, g cells 6, g cells 7, g cells 8, g cells 9, g cells 10, g cells 11, g cells 12, g cells 13]) (by rw [hrow]; exact k3) rfl (by rw [hrow]; exact k2) hlc) ?_
 rintro _ H2 O2 ⟨cells2, A, B, rfl, m1, m2, m3⟩ l2
 refine ⟨cells2, by simp [Shp.open, m1], m2, ?_⟩
 refine aa (aa ?_)
 refine rB (O' := O2) (by simp) ⟨cells2, A, B, by rw [← zB m1]; rfl, m1, m2, m3⟩
theorem LW {r : List Value} (h : r.length = 2) : (r.drop 1).take 1 = [g r 1] := by
 match r, h with
 | [_, _], _ => rfl
theorem za {H : Heap} {v : Value} {cs : List CdX} (h : CardsX H v cs) (hli : fu (cs.map CdX.base) = true) (player id card trig : Int) {s : Value} (hs : s.oneCell' = true) :
  Triple PP oR [v, .agg #[iV player, iV id, iV card, iV trig, s]] H [] fun r _ O' => OSl dQ 5 r (iR (GK cs card trig)) O' := by
 refine sY (vs := [v, iV player, iV id, iV card, iV trig, s]) (by kernel_rfl) ⟨h.one, rfl, rfl, rfl, rfl, hs, trivial⟩ ?_
 simp only [oz]
 refine ae fun r0 => ?_
 refine aa ?_
 refine ao (y9 h hli (Py card)) ?_
 rintro _ H1 O1 ⟨cells, A, B, rfl, k1, k2, k3, k4, k5, k6⟩ l1
 refine ⟨cells, by simp [Shp.open, k1], k2, ae fun r1 => ?_⟩
 have k4 : OSl dQ 5 (g cells 11) (iR (cdX cs card).effs) A := k4
 obtain ⟨rows, A', Ts, q1, q2, q3, q4, q5⟩ : Qz (g cells 12) (cdX cs card).trs B := k5
 have hlen : aj .len [g cells 12] = some (iV (cdX cs card).trs.length) := by have := q2.len; rwa [q3] at this
 refine aa (aa ?_)
 refine ab _ (aA _ _) (ak (fun hb => ?_) (fun hb => ?_))
 ·have hb : trig = -1 := by simpa using hb
  refine aa ?_
  refine tj (O' := A) (Y := B) (by simpa using k6) ?_
  rw [GK, if_pos hb]; exact k4
 have hb : trig ≠ -1 := by simpa using hb
 refine aa ?_
 refine ab _ (aN _ _) ?_
 repeat (first | refine aa ?_ | refine af ?_)
 refine ab _ hlen ?_
 refine af (af (ab _ (og _ _) (af (ab _ (aM _ _) ?_))))
 refine ak (fun hc => ?_) (fun hc => ?_)
 ·have hc : (decide (trig < 0) || decide (trig ≥ ((cdX cs card).trs.length : Int))) = true := hc
  refine mh ?_
  rw [GK, if_neg hb, if_pos (by simpa using hc)]; exact OSl.nil _ _
 ·have hc : (decide (trig < 0) || decide (trig ≥ ((cdX cs card).trs.length : Int))) = false := hc
  have hn : ¬ (trig < 0 ∨ trig ≥ ((cdX cs card).trs.length : Int)) := by simpa [Bool.or_eq_false_iff] using hc
  have hlt : trig.toNat < (cdX cs card).trs.length := by omega
  have ecast : ((trig.toNat : Nat) : Int) = trig := by omega
  have hri : rows[trig.toNat]? = some (rows[trig.toNat]'(by omega)) := List.getElem?_eq_getElem (by omega)
  have hTi : trig.toNat < Ts.length := by omega
  have hT := q5 _ _ _ _ hri (List.getElem?_eq_getElem hlt) (List.getElem?_eq_getElem hTi)
  obtain ⟨w1, w2⟩ := q2.rows_ok hri
  obtain ⟨p1, _⟩ := un hTi
  have hmem : ∀ p ∈ A', p ∈ O1 ++ [] := fun p hp => by
   rw [List.append_nil]
   exact k6.mem_iff.2 (List.mem_append_right _ (q1.mem_iff.2 (List.mem_append_left _ hp)))
  obtain ⟨a, i1, i2, i3, i4⟩ := q2.idx hmem H1 (k := .i64) hri
  have i5 := i4 1 1 (by omega)
  rw [LW w1] at i5
  rw [ecast] at i1
  refine aa (aa ?_)
  refine ab _ i1 ?_
  refine aH rfl ?_
  refine ax i5 rfl ⟨hT.one, trivial⟩ ?_
  have hperm : (O1 ++ []).Perm (Ts[trig.toNat] ++ (A ++ (A' ++ List.flatten (Ts.eraseIdx trig.toNat)))) := by
   rw [List.append_nil]
   refine k6.trans ?_
   refine ((q1.trans (p1.append_left A')).append_left A).trans ?_
   refine ((List.perm_append_comm_assoc A' _ _).append_left A).trans ?_
   exact List.perm_append_comm_assoc A _ _
  refine tj hperm ?_
  rw [GK, if_neg hb, if_neg hn, List.getD_eq_getElem?_getD, List.getElem?_eq_getElem hlt]
  exact hT
theorem MO {H : Heap} {v : dr} {b : Bd} (h : BdS H v b) (hv : al b = false) : RetO PP mM [.agg (am v b).toArray] H [] (.tuple #[.agg (am sP zBd).toArray, .agg #[iV 0, iV 0, iV 0, iV 0, .slice none 0 0], iV 2]) := by
 refine rm (vs := am v b) (by kernel_rfl) (an (h.r [])) ?_
 simp only [qW]
 refine ae fun r0 => ae fun r1 => ae fun r2 => ?_
 refine aa ?_
 refine ai (cz (h.r [])) rfl ⟨rfl, trivial⟩ fun H1 l1 => ?_
 rw [hv]
 refine ab _ (aB _) (ak (fun _ => ?_) (fun hd => by cases hd))
 refine aa (aa (aa (aa ?_)))
 exact ah ⟨rfl, rfl⟩
theorem J1 {H : Heap} {cv : Value} (hc : cv.oneCell' = true) {v : dr} {b : Bd} (h : BdS H v b) (hv : al b = false) : RetO PP oQ [cv, .agg (am v b).toArray] H [] (iV 0) := by
 refine pR (vs := cv :: am v b) (by kernel_rfl) ⟨hc, an (h.r [])⟩ ?_
 simp only [oy]
 have slen : aj .len [v.s] = some (iV b.stack.length) := ItsR.len (h.stack.r [])
 have hsB : b.stack.length < 2 ^ 63 := by
  obtain ⟨rows, h1, h2, _⟩ := h.stack
  have := h1.lenB; omega
 refine ae fun r0 => ?_
 refine aa ?_
 refine ab _ slen ?_
 refine ab _ (aA _ _) (ak (fun _ => ?_) (fun _ => ?_))
 ·exact ah ⟨rfl, rfl⟩
 refine aa ?_
 refine ai (cz (h.r [])) rfl ⟨rfl, trivial⟩ fun H1 l1 => ?_
 rw [hv]
 have hoff : ∀ {P : Prop} {gd : List (Value × Bool)}, On ((Value.bool (!false), false) :: gd) → P := fun ho => by have := ho.1; cases this
 refine ab _ (aB _) ?_
 refine aa (af (af ?_))
 refine ab _ (JA (by omega) (by omega)) ?_
 refine af (af ?_)
 refine ⟨.pointer (some ⟨0, 0, none⟩), fun ho => hoff ho, .inr rfl, ?_⟩
 refine aH rfl (af (af ?_))
 refine ⟨[iV 0], rfl, ⟨rfl, trivial⟩, fun ho => hoff ho, ?_⟩
 refine af ?_
 refine ab _ (aV _ _) ?_
 refine af ?_
 refine ab _ (aM _ _) (ak (fun _ => ?_) (fun hd => by cases hd))
 exact ah ⟨rfl, rfl⟩
theorem IH : ∀ {l : List Int} {x i : Int}, 0 ≤ i → 0 ≤ mr l x i → ∃ j : Nat, mr l x i = i + j ∧ l[j]? = some x
 | [], x, i, _, h => by simp [mr] at h
 | a :: l, x, i, h0, h => by
  simp only [mr] at h ⊢
  by_cases hx : x = a
  ·subst hx; exact ⟨0, by simp, rfl⟩
  ·have hb : (x == a) = false := by simpa using hx
   rw [hb] at h ⊢
   simp only [Bool.false_eq_true, if_false] at h ⊢
   obtain ⟨j, h1, h2⟩ := IH (by omega) h
   exact ⟨j + 1, by rw [h1]; omega, h2⟩
theorem En {id : Int} : ∀ {l : List (Int × Int × List Int)} {s : Int × Int × Int}, nh id l = some s → ∃ x ∈ l, s.1 = x.1 ∧ s.2.1 = x.2.1 ∧ ∃ j : Nat, s.2.2 = j ∧ x.2.2[j]? = some id
 | [], _, h => by simp [nh] at h
 | a :: l, s, h => by
  simp only [nh] at h
  split at h
  ·rename_i hi
   obtain ⟨j, h1, h2⟩ := IH (by omega) hi
   rw [← Option.some.inj h]
   exact ⟨a, by simp, rfl, rfl, j, by show mr a.2.2 id 0 = _; rw [h1]; omega, h2⟩
  ·obtain ⟨x, hx, hm⟩ := En h
   exact ⟨x, by simp [hx], hm⟩
theorem JE {b c : Bd} (h : al b = true) (hpl : bu aP c = true) (hf : dO c = true) (h0 : be c.s0 = be b.s0) (h1 : be c.s1 = be b.s1)
  (e1 : c.active = b.active) (e2 : c.turn = b.turn) (e3 : c.phase = b.phase) (e4 : c.holder = b.holder) (e5 : c.passes = b.passes) (e7 : c.queue = b.queue) (e8 : c.objs.length = b.objs.length)
  (hs : c.stack.length ≤ 200) (hfine : ∀ x ∈ c.stack, jr x false = true) : al c = true := by
 have hany : (c.stack.any fun x => !jr x false) = false := by
  rw [List.any_eq_false]
  intro x hx
  rw [hfine x hx]; simp
 simp only [al, nZ, Bool.and_eq_true, Bool.not_eq_true', Bool.or_eq_false_iff, decide_eq_false_iff_not] at h ⊢
 obtain ⟨a1, a2, a3, a4, ⟨⟨⟨a5, a6⟩, a7⟩, a8⟩, a9, a10, a11, a12, a13⟩ := h
 rw [e1, e2, e3, e4, e5, e7, e8, h0, h1]
 exact ⟨a1, a2, a3, a4, ⟨⟨⟨a5, a6⟩, by omega⟩, a8⟩, a9, a10, hany, a12, hpl, hf⟩
theorem jD {b : Bd} (h : al b = true) {x : It} (hx : x ∈ b.stack) : jr x false = true := List.all_eq_true.1 (aJ h).2.2.2 x hx
theorem vw {b : Bd} (h : al b = true) : b.stack.length ≤ 200 := by
 simp only [al, nZ, Bool.and_eq_true, Bool.not_eq_true', Bool.or_eq_false_iff, decide_eq_false_iff_not] at h
 obtain ⟨a1, a2, a3, a4, ⟨⟨⟨a5, a6⟩, a7⟩, a8⟩, _⟩ := h
 omega
theorem HH {b : Bd} (h : al b = true) {l : List It} {x : It} (hl : b.stack = l ++ [x]) (hx : ¬ x.trig < 0) : al { b with stack := l } = true := by
 have hc : bD l = bD b.stack := by
  rw [hl, bD, bD, List.filter_append, List.filter_cons, if_neg (by simpa using hx)]
  simp
 have e1 : ej l = ej b.stack := by rw [ej, hc, ej]
 have e2 : aZ l = aZ b.stack := by rw [aZ, hc, aZ]
 have hlen := vw h
 refine JE h (wu (aJ h).1 (by simp only [aI]; rw [e1]) rfl e2) (aJ h).2.1 rfl rfl rfl rfl rfl rfl rfl rfl rfl (by rw [hl] at hlen; simp at hlen; show l.length ≤ 200; omega) fun y hy => jD h (by rw [hl]; exact List.mem_append_left _ hy)
theorem Oz {H : Heap} {va vc : Value} (life : Int) {a c : List Int} (ha : Sl H 1 va (aF a)) (hc : Sl H 1 vc (aF c)) (hla : a.length ≤ 1000) (hlc : c.length ≤ 1000) :
  Triple PP kM [iV life, .agg #[va, vc]] H [] (Qo life a c) := by
 refine pB (vs := [iV life, va, vc]) (by kernel_rfl) ⟨rfl, ha.one, hc.one, trivial⟩ ?_
 simp only [kF]
 have la := ha.len
 have lc := hc.len
 rw [aF, List.length_map] at la lc
 refine ae fun r0 => ae fun r1 => ae fun r2 => ?_
 repeat (first | refine aa ?_ | refine af ?_ | refine ab _ la ?_ | refine ab _ lc ?_ | refine ab _ (Ed (by omega)) ?_ | refine ab _ (eJ _ _) ?_ | refine ab _ (aN _ _) ?_ | refine ab _ (aM _ _) ?_)
 refine ak (fun hb => aa (aa (ah (Dt ?_ H)))) (fun hb => ?_)
 ·unfold Du
  simp only [Bool.or_eq_true, decide_eq_true_eq] at hb
  rcases hb with hb | hb
  ·have : ¬ (1 ≤ life ∧ life ≤ 9999) := by omega
   simp only [this, decide_false, Bool.false_and]
  ·have : ¬ (a.length + c.length ≤ 500) := by omega
   simp only [this, decide_false, Bool.and_false, Bool.false_and]
 simp only [Bool.or_eq_false_iff, decide_eq_true_eq, decide_eq_false_iff_not] at hb
 have hlife : 1 ≤ life ∧ life ≤ 9999 := by omega
 have hsum : a.length + c.length ≤ 500 := by omega
 refine aa ?_
 refine pm a.length (fun i xs H' O' => ∃ o l O1 O2, xs = [o, l, ma] ∧ O'.Perm (O1 ++ O2) ∧ Heap.le H H' ∧ OSl aE 12 o (((fx 0 a 0).take i).map Ob.row) O1 ∧ OSl aG 1 l (aF (((fx 0 a 0).take i).map (·.id))) O2 ∧ ∀ x ∈ a.take i, 0 ≤ x ∧ x ≤ 399)
  ⟨ma, ma, [], [], rfl, List.Perm.refl _, Heap.le_refl _, OSl.nil _ _, OSl.nil _ _, by simp⟩ ?_
 rintro i xs H2 O2' hi - - - ⟨o, l, O1, O2, rfl, hO, l2, ho, hl, hall⟩
 refine aa (ab _ la (ab _ (aN _ _) (ak (fun hb => ?_) (fun hb => ?_))))
 ·have hlt : i < a.length := by simpa using hb
  obtain ⟨p, h1, h2, h3, h4⟩ := (ha.le l2).idx (k := .i64) (i := i) (r := [iV a[i]]) (by simp [aF, hlt])
  refine aa (ab _ h1 (fL h2 h3 h4 (ab _ (aN _ _) (af (aa (af (af (af (AW h1 rfl (af (BA h2 h3 h4 (af (ab _ (eJ _ _) (af (ab _ (aM _ _) (ak (fun hb => aa (aa (mh (Dt ?_ H2)))) (fun hb => ?_)))))))))))))))))
  ·refine Bt (i := i) (by simp; omega) ?_
   rw [List.getElem_append_left hlt]
   rintro ⟨q1, q2⟩
   simp at hb
   omega
  ·have hin : 0 ≤ a[i] ∧ a[i] ≤ 399 := by simp at hb; omega
   have lno := ho.len
   rw [List.length_map, List.length_take, fN, Nat.min_eq_left (by omega)] at lno
   refine aa (ab _ lno (ab _ (aD (by omega)) (aa (aa (ab _ h1 (fL h2 h3 h4 (ae fun r3 => ?_)))))))
   refine ay (rows := ((fx 0 a 0).take i).map Ob.row) (news := [(FX ((i + 1 : Nat) : Int) a[i] 0).row]) (O1 := O1) (O2 := O2) (e := aE) (size := 12) (bytes := 80) (by kernel_rfl) hO ho
    (fun Hf _ hf => Sl.block1 (hf _ List.mem_cons_self) rfl (by simp [FX, Ob.row, Ones, Value.oneCell'])) ?_ ?_ ?_
   ·simp [fN]; omega
   ·simp [fN]; omega
   intro o' O1' H5 l5 ho'
   refine aa (aa (ae fun r4 => ?_))
   refine ay (rows := aF (((fx 0 a 0).take i).map (·.id))) (news := [[iV ((i + 1 : Nat) : Int)]]) (O1 := O2) (O2 := O1') (e := aG) (size := 1) (bytes := 8) (by kernel_rfl) List.perm_append_comm hl
    (fun Hf _ hf => Sl.block1 (hf _ List.mem_cons_self) rfl ⟨rfl, trivial⟩) ?_ ?_ ?_
   ·simp [aF, fN]; omega
   ·simp [aF, fN]; omega
   intro l' O2'' H6 l6 hl'
   refine aa (ab _ (aD (by omega)) (jT (by simp [Eqs, E]) hlt ⟨o', l', O1', O2'', rfl, List.perm_append_comm, ?_, ?_, ?_, Fg hlt hall hin⟩))
   ·exact Heap.le_trans l2 (Heap.le_trans l5 l6)
   ·rw [rN hlt, List.map_append, Nat.zero_add]; exact ho'
   ·rw [rN hlt, List.map_append, Nat.zero_add, wY] at *
    exact hl'
 ·have hie : i = a.length := by simp at hb; omega
  subst hie
  rw [List.take_of_length_le (by rw [fN]; exact Nat.le_refl _)] at ho hl
  rw [List.take_length] at hall
  refine aa ?_
  refine pm c.length (fun i xs H' O' => ∃ o m O1 O3, xs = [o, l, m] ∧ O'.Perm (O1 ++ (O2 ++ O3)) ∧ Heap.le H2 H' ∧ OSl aE 12 o ((fx 0 a 0 ++ (fx a.length c 1).take i).map Ob.row) O1 ∧ OSl aG 1 m (aF (((fx a.length c 1).take i).map (·.id))) O3 ∧ ∀ x ∈ c.take i, 0 ≤ x ∧ x ≤ 399)
   ⟨o, ma, O1, [], rfl, by simpa using hO, Heap.le_refl _, by simpa using ho, OSl.nil _ _, by simp⟩ ?_
  rintro i xs H3 O3' hi - - - ⟨o, m, O1, O3, rfl, hO, l3, ho, hm, hallc⟩
  refine aa (ab _ lc (ab _ (aN _ _) (ak (fun hb => ?_) (fun hb => ?_))))
  ·have hlt : i < c.length := by simpa using hb
   obtain ⟨p, h1, h2, h3, h4⟩ := ((hc.le l2).le l3).idx (k := .i64) (i := i) (r := [iV c[i]]) (by simp [aF, hlt])
   refine aa (ab _ h1 (fL h2 h3 h4 (ab _ (aN _ _) (af (aa (af (af (af (AW h1 rfl (af (BA h2 h3 h4 (af (ab _ (eJ _ _) (af (ab _ (aM _ _) (ak (fun hb => aa (aa (mh (Dt ?_ H3)))) (fun hb => ?_)))))))))))))))))
   ·refine Bt (i := a.length + i) (by simp; omega) ?_
    rw [List.getElem_append_right (by omega)]
    rintro ⟨q1, q2⟩
    simp at hb q1 q2
    omega
   ·have hin : 0 ≤ c[i] ∧ c[i] ≤ 399 := by simp at hb; omega
    have lno := ho.len
    rw [List.length_map, List.length_append, List.length_take, fN, fN, Nat.min_eq_left (by omega)] at lno
    refine aa (ab _ lno (ab _ (aD (by omega)) (aa (aa (ab _ h1 (fL h2 h3 h4 (ae fun r5 => ?_)))))))
    refine ay (rows := (fx 0 a 0 ++ (fx a.length c 1).take i).map Ob.row) (news := [(FX ((a.length + i + 1 : Nat) : Int) c[i] 1).row]) (O1 := O1) (O2 := O2 ++ O3) (e := aE) (size := 12) (bytes := 80) (by kernel_rfl) hO ho
     (fun Hf _ hf => Sl.block1 (hf _ List.mem_cons_self) rfl (by simp [FX, Ob.row, Ones, Value.oneCell'])) ?_ ?_ ?_
    ·simp [fN]; omega
    ·simp [fN]; omega
    intro o' O1' H6 l6 ho'
    refine aa (aa (ae fun r6 => ?_))
    refine ay (rows := aF (((fx a.length c 1).take i).map (·.id))) (news := [[iV ((a.length + i + 1 : Nat) : Int)]]) (O1 := O3) (O2 := O1' ++ O2) (e := aG) (size := 1) (bytes := 8) (by kernel_rfl)
     (by rw [← List.append_assoc]; exact List.perm_append_comm) hm (fun Hf _ hf => Sl.block1 (hf _ List.mem_cons_self) rfl ⟨rfl, trivial⟩) ?_ ?_ ?_
    ·simp [aF, fN]; omega
    ·simp [aF, fN]; omega
    intro m' O3'' H7 l7 hm'
    refine aa (ab _ (aD (by omega)) (jT (by simp [Eqs, E]) hlt ⟨o', m', O1', O3'', rfl, ?_, ?_, ?_, ?_, Fg hlt hallc hin⟩))
    ·rw [← List.append_assoc O1']; exact List.perm_append_comm
    ·exact Heap.le_trans l3 (Heap.le_trans l6 l7)
    ·rw [rN hlt, ← List.append_assoc, List.map_append]; exact ho'
    ·rw [rN hlt, List.map_append]
     rw [wY] at hm'
     exact hm'
  ·have hie : i = c.length := by simp at hb; omega
   subst hie
   rw [List.take_of_length_le (by rw [fN]; exact Nat.le_refl _)] at ho hm
   rw [List.take_length] at hallc
   refine aa (aa (aa (Kp ?_ hO ho hl hm)))
   unfold Du
   simp only [Bool.and_eq_true, decide_eq_true_eq, List.all_eq_true]
   refine ⟨⟨hlife, hsum⟩, fun x hx => ?_⟩
   rcases List.mem_append.1 hx with hx | hx
   ·exact hall x hx
   ·exact hallc x hx
end Go.Proofs.YtdhobpmnkfmcfaaGreatDoor
namespace Go.Sx
open Go
set_option maxRecDepth 100000
set_option maxHeartbeats 1000000
theorem Ae {T : Heap → Own → (Value → Heap → Own → Prop) → Prop} {frz : List BV} {shp : Shp} {K : List Value → List (List Value) → Heap → Own → Prop} {H : Heap} {O B : Own} {Φ : Heap → Prop}
  (hz : ∀ H1, Heap.le H H1 → Cons H1 O → ∃ Hf, Ghost H1 O Hf B ∧ Heap.le H1 Hf ∧ Φ Hf)
  (h : ∀ Hf, Heap.le H Hf → (∀ b ∈ frz, Hf b.r = some b.obj.2) → Φ Hf → ∃ Q, T Hf [] Q ∧ ∀ v H' O', Q v H' O' → Heap.le Hf H' → ∃ vs, shp.open v = some vs ∧ Ones vs ∧ K vs [] H' (O' ++ B)) :
  dG T false frz [] shp K H O := by
 intro hc
 have hf := fM hc
 have hc2 : Cons (H.insAll frz) O := by
  obtain ⟨w, F, hm⟩ := hc
  exact ⟨w, F, (jq (by simpa [List.append_assoc] using hm)).1⟩
 obtain ⟨Hf, g, hl, hphi⟩ := hz _ (Heap.le_insAll frz H) hc2
 obtain ⟨Q, hT, hk⟩ := h Hf (Heap.le_trans (Heap.le_insAll frz H) hl) (fun b hb => hl.1 _ _ (hf b hb)) hphi
 refine ⟨Hf, [], B, Q, by simpa using g, by simpa using hT, fun v H' O' hq hle => ?_⟩
 obtain ⟨vs, h1, h2, h3⟩ := hk v H' O' hq hle
 exact ⟨vs, [], O', h1, h2, trivial, by simp [jp], by simpa using h3⟩
theorem zR {H : Heap} {O : Own} : ∀ H1, Heap.le H H1 → Cons H1 O → ∃ Hf, Ghost H1 O Hf O ∧ Heap.le H1 Hf ∧ (fun _ : Heap => True) Hf := fun H1 _ _ => ⟨H1, Ghost.refl _ _, Heap.le_refl _, trivial⟩
theorem Sl.of_block {H : Heap} {r size : Nat} {T : TypeId} {all : List (List Value)} {cs : List Value} (h : H r = some (.cells cs.toArray T (0, 0))) (hcs : cs = all.flatten) (hl : ∀ row ∈ all, row.length = size) (ho : ∀ row ∈ all, Ones row) {m n : Nat} (hm : m ≤ all.length) (hn : n = all.length) (hb : n < 2 ^ 63) :
  Sl H size (.slice (some ⟨r, 0, none⟩) m n) (all.take m) := by
 subst hcs
 subst hn
 have hml : (all.take m).length = m := by rw [List.length_take]; omega
 refine ⟨_, _, by rw [hml], by rw [hml]; exact hm, hb, fun _ => ⟨_, rfl, ?_⟩⟩
 intro i x hx
 have hi : all[i]? = some x := by
  rw [List.getElem?_take] at hx
  split at hx
  ·exact hx
  ·cases hx
 have hmem := List.mem_of_getElem? hi
 have hlt := (List.getElem?_eq_some_iff.1 hi).1
 have hfl := cP hl
 have hmul : (i + 1) * size ≤ all.length * size := Nat.mul_le_mul_right _ hlt
 rw [Nat.add_mul, Nat.one_mul] at hmul
 refine ⟨?_, hl x hmem, ho x hmem⟩
 rw [bY, Nat.zero_add, o9 h (by rw [hfl]; exact hmul)]
 exact congrArg some (fw hl hi)
end Go.Sx
namespace Go.Proofs.YtdhobpmnkfmcfaaGreatDoor
open Go Go.Sx
set_option maxRecDepth 100000
set_option maxHeartbeats 1000000
theorem Triple.frozen2 {P : Program} {f : FuncId} {args : List Value} {H : Heap} {t : Tys} {b : Bd} {e : Int} (h : Triple P f args H [] fun r _ O' => ∃ w, r = .tuple #[.agg (am w b).toArray, iV e] ∧ OwnB t w b O') :
  Triple P f args H [] fun r H' O' => (∃ w, r = .tuple #[.agg (am w b).toArray, iV e] ∧ BdS H' w b) ∧ O' = [] := by
 refine Triple.ghost h ?_
 rintro v H' O' _ hc ⟨w, rfl, ho⟩
 obtain ⟨H'', g, k, _⟩ := ho.freeze (X := []) (by simpa using hc)
 exact ⟨H'', [], by simpa using g, ⟨w, rfl, k⟩, rfl⟩
theorem OH {H : Heap} {O : Own} {v : Value} {l : List It} (h : ItsS H v l) {i : Nat} {x : It} (hx : l[i]? = some x) :
  ∃ a s, aj (.idx 5) [v, iV i] = some (.pointer (some a)) ∧ Sl H 2 s (cO x.tgs) ∧ Reads H O (.pointer (some a)) 5 [iV x.player, iV x.id, iV x.card, iV x.trig, s] ∧
   ∀ off m, off + m ≤ 5 → Reads H O (bz (.pointer (some a)) off) m (([iV x.player, iV x.id, iV x.card, iV x.trig, s].drop off).take m) := by
 obtain ⟨rows, h1, h2, h3⟩ := h
 have hlt := (List.getElem?_eq_some_iff.1 hx).1
 have hr : rows[i]? = some (rows[i]'(by omega)) := List.getElem?_eq_getElem (by omega)
 obtain ⟨s, e, hs⟩ := h3 i _ x hr hx
 obtain ⟨a, k1, k2, k3, _⟩ := (h1.rsl O).idx .i64 i _ hr
 rw [e] at k2 k3
 exact ⟨a, s, k1, hs, k2, k3⟩
theorem B7 {α : Type} (l : List α) (x : α) : (l ++ [x])[l.length]? = some x := by simp
def mP (cs : List CdX) (x : It) : List Int := fS ((GK cs x.card x.trig).map (·.target))
def HN (cs : List CdX) (x : It) : Int := if x.trig = -1 ∧ (x.tgs.length : Int) < min 4 ((mP cs x).length : Int) then (mP cs x).getD x.tgs.length 0 else 0
def Bj (cs : List CdX) (b : Bd) : Int := match b.stack.getLast? with
 | none => 0
 | some x => HN cs x
theorem HM {cs : List CdX} {b : Bd} {l : List It} {x : It} (hl : b.stack = l ++ [x]) : Bj cs b = HN cs x := by
 simp [Bj, hl]
theorem ww {cs : List CdX} {b : Bd} (hl : b.stack = []) : Bj cs b = 0 := by
 simp [Bj, hl]
theorem Eh {b : Bd} (h : b.stack ≠ []) : ∃ l x, b.stack = l ++ [x] := ⟨b.stack.dropLast, b.stack.getLast h, (List.dropLast_concat_getLast h).symm⟩
theorem zZ {cs : List CdX} (hli : fu (cs.map CdX.base) = true) (c t : Int) : (GK cs c t).length ≤ 5 := by
 have h := vz hli c
 rw [← E4] at h
 simp only [mF, CdX.base, Bool.and_eq_true, Bool.not_eq_true', Bool.or_eq_false_iff, decide_eq_false_iff_not, List.all_eq_true, List.length_map] at h
 obtain ⟨⟨h1, h2⟩, h3⟩ := h
 rw [GK]
 split
 ·omega
 split
 ·simp
 ·rename_i hn
  have hlt : t.toNat < (cdX cs c).trs.length := by omega
  rw [List.getD_eq_getElem?_getD, List.getElem?_eq_getElem hlt, Option.getD_some]
  have := h3 _ (List.mem_map.2 ⟨_, List.getElem_mem hlt, rfl⟩)
  omega
theorem FY {cs : List CdX} (hli : fu (cs.map CdX.base) = true) (x : It) : (mP cs x).length ≤ 5 := by
 have := zZ hli x.card x.trig
 have h2 : (mP cs x).length ≤ ((GK cs x.card x.trig).map (·.target)).length := List.length_filter_le _ _
 rw [List.length_map] at h2
 omega
theorem LP {H : Heap} {cv : Value} {cs : List CdX} (hk : CardsX H cv cs) (hli : fu (cs.map CdX.base) = true) {v : dr} {b : Bd} (h : BdS H v b) (hv : al b = true) : RetO PP oQ [cv, .agg (am v b).toArray] H [] (iV (Bj cs b)) := by
 refine pR (vs := cv :: am v b) (by kernel_rfl) ⟨hk.one, an (h.r [])⟩ ?_
 simp only [oy]
 have slen : aj .len [v.s] = some (iV b.stack.length) := ItsR.len (h.stack.r [])
 have h200 := vw hv
 refine ae fun r0 => ?_
 refine aa ?_
 refine ab _ slen ?_
 refine ab _ (aA _ _) (ak (fun h0 => ?_) (fun h0 => ?_))
 ·have h0 : b.stack = [] := List.length_eq_zero_iff.1 (by have : (b.stack.length : Int) = 0 := (by simpa using h0); omega)
  exact ah ⟨by rw [ww h0], rfl⟩
 have hne : b.stack ≠ [] := fun e => by rw [e] at h0; simp at h0
 obtain ⟨l, x, hl⟩ := Eh hne
 have hlen : b.stack.length = l.length + 1 := by rw [hl]; simp
 have hxf := jD hv (x := x) (by rw [hl]; simp)
 rw [HM hl]
 refine aa ?_
 refine ai (cz (h.r [])) rfl ⟨rfl, trivial⟩ fun H1 l1 => ?_
 rw [hv]
 have h := h.le l1
 have hk := hk.le l1
 obtain ⟨a, s, k1, hs, k2, k3⟩ := OH (O := []) h.stack (i := l.length) (x := x) (by rw [hl]; exact B7 l x)
 have esub : ((b.stack.length : Int) - 1) = (l.length : Int) := by omega
 refine ab _ (aB _) ?_
 refine aa (af (af ?_))
 refine ab _ (JA (by omega) (by omega)) ?_
 rw [esub]
 refine af (af ?_)
 refine ⟨_, fun _ => k1, .inr rfl, ?_⟩
 refine ⟨fun _ => rfl, ?_⟩
 refine af (af ?_)
 refine ⟨[iV x.trig], rfl, ⟨rfl, trivial⟩, fun _ => k3 3 1 (by omega), ?_⟩
 refine af ?_
 refine ab _ (aV _ _) ?_
 refine af ?_
 refine ab _ (aM _ _) (ak (fun ht => ?_) (fun ht => ?_))
 ·have ht : (!true || x.trig != -1) = true := ht
  have ht : x.trig ≠ -1 := by simpa using ht
  exact ah ⟨by rw [HN, if_neg (fun h => ht h.1)], rfl⟩
 have ht : (!true || x.trig != -1) = false := ht
 have ht : x.trig = -1 := by simpa using ht
 refine aa ?_
 refine ab _ (JA (by omega) (by omega)) ?_
 rw [esub]
 refine ab _ k1 (ax k2 rfl ⟨rfl, rfl, rfl, rfl, hs.one, trivial⟩ (ae fun r1 => ?_))
 refine aa (aa ?_)
 refine ao (Triple.frozenS (za hk hli x.player x.id x.card x.trig hs.one)) ?_
 rintro ev H2 _ ⟨hev, rfl⟩ l2
 refine ⟨[ev], rfl, ⟨hev.one, trivial⟩, ?_⟩
 have hn5 := FY hli x
 refine ao (Triple.frozenS (NS (BZ hev) (by rw [List.length_map]; have := zZ hli x.card x.trig; omega))) ?_
 rintro nv H3 _ ⟨hnv, rfl⟩ l3
 have hnv : Sl H3 1 nv (aF (mP cs x)) := hnv
 refine ⟨[nv], rfl, ⟨hnv.one, trivial⟩, ?_⟩
 have tlen : aj .len [s] = some (iV x.tgs.length) := by have := hs.len; rwa [cA] at this
 have nlen : aj .len [nv] = some (iV (mP cs x).length) := by have := hnv.len; rwa [aF, List.length_map] at this
 have ht4 : x.tgs.length ≤ 4 := by
  simp only [jr, Bool.and_eq_true, Bool.not_eq_true', Bool.or_eq_false_iff, decide_eq_false_iff_not] at hxf
  have := hxf.2.2.2.2.1.1.1
  omega
 refine aa ?_
 refine ab _ tlen ?_
 refine ab _ nlen ?_
 refine ab _ (aN _ _) ?_
 refine af ?_
 refine ab _ (aN _ _) ?_
 refine af ?_
 refine ab _ (bA _ _) (ak (fun hc => ?_) (fun hc => ?_))
 ·have hc : (decide ((x.tgs.length : Int) < ((mP cs x).length : Int)) && decide ((x.tgs.length : Int) < 4)) = true := hc
  have hc : (x.tgs.length : Int) < ((mP cs x).length : Int) ∧ (x.tgs.length : Int) < 4 := by simpa using hc
  have hlt : x.tgs.length < (mP cs x).length := by omega
  obtain ⟨a2, i1, i2, _, i3, i4⟩ := (hnv.rsl ([] : Own)).idx .i64 x.tgs.length [iV (mP cs x)[x.tgs.length]] (by simp [aF, hlt])
  refine ab _ i1 (ax i2 rfl ⟨rfl, trivial⟩ ?_)
  refine ah ⟨?_, rfl⟩
  rw [HN, if_pos ⟨ht, by omega⟩, List.getD_eq_getElem?_getD, List.getElem?_eq_getElem hlt]; rfl
 ·have hc : (decide ((x.tgs.length : Int) < ((mP cs x).length : Int)) && decide ((x.tgs.length : Int) < 4)) = false := hc
  have hc : ¬ ((x.tgs.length : Int) < ((mP cs x).length : Int) ∧ (x.tgs.length : Int) < 4) := by
   intro hh
   rw [decide_eq_true hh.1, decide_eq_true hh.2] at hc
   cases hc
  exact ah ⟨by rw [HN, if_neg (fun h => hc (by omega))], rfl⟩
theorem F8 {α : Type} {Ts : List α} {n : Nat} (h : Ts.length = n + 1) : ∃ T, Ts = Ts.take n ++ [T] ∧ Ts[n]? = some T := by
 have hlt : n < Ts.length := by omega
 refine ⟨Ts[n], ?_, List.getElem?_eq_getElem hlt⟩
 have := List.take_append_drop n Ts
 rw [List.drop_eq_getElem_cons hlt, List.drop_of_length_le (by omega)] at this
 exact this.symm
theorem MN {w : dr} {b : Bd} {O : Own} (ho : OwnBS tys w b O) {l : List It} {x : It} (hl : b.stack = l ++ [x]) :
  ∃ A T s a u, O.Perm (A ++ T) ∧ aj (.idx 5) [w.s, iV l.length] = some (.pointer (some a)) ∧ OSl az 2 s (cO x.tgs) T ∧
   (∀ (H : Heap), Reads H O (.pointer (some a)) 5 [iV x.player, iV x.id, iV x.card, iV x.trig, s]) ∧
   aj (.slc 5 false true false) [w.s, iV l.length] = some u ∧ OwnB tys { w with s := u } { b with stack := l } A := by
 obtain ⟨A, R, hp, ⟨rows, A1, Ts, q1, q2, q3, q4, q5⟩, back⟩ := ho
 have hn : b.stack.length = l.length + 1 := by rw [hl]; simp
 have hri : rows[l.length]? = some (rows[l.length]'(by omega)) := List.getElem?_eq_getElem (by omega)
 have hxi : b.stack[l.length]? = some x := by rw [hl]; exact B7 l x
 obtain ⟨T, eT, hT⟩ := F8 (Ts := Ts) (n := l.length) (by omega)
 obtain ⟨s, e, hs⟩ := q5 _ _ _ _ hri hxi hT
 obtain ⟨u, u1, u2⟩ := q2.upto (i := l.length) (by omega)
 obtain ⟨a, k1, _⟩ := q2.store (O := A1) (O2 := []) (by simp) (k := .i64) hri
 refine ⟨(A1 ++ List.flatten (Ts.take l.length)) ++ R, T, s, a, u, ?_, k1, hs, fun H => ?_, u1, back u l _ ⟨rows.take l.length, A1, Ts.take l.length, List.Perm.refl _, u2, by rw [List.length_take]; omega, by rw [List.length_take]; omega, fun i r y Ty h1 h2 h3 => ?_⟩⟩
 ·have e2 : List.flatten Ts = List.flatten (Ts.take l.length) ++ T := by
   conv => lhs; rw [eT]
   rw [List.flatten_append]; simp
  rw [e2] at q1
  refine hp.trans ((q1.append_right R).trans ?_)
  rw [List.append_assoc, List.append_assoc, List.append_assoc, List.append_assoc]
  refine List.Perm.append_left A1 ?_
  refine List.Perm.append_left _ ?_
  exact List.perm_append_comm
 ·obtain ⟨a', i1, _, i2, i3⟩ := q2.idx (fun p h => hp.mem_iff.2 (List.mem_append_left _ (q1.mem_iff.2 (List.mem_append_left _ h)))) H (k := .i64) hri
  have : a' = a := by
   rw [k1] at i1
   simpa using i1.symm
  subst this
  rw [e] at i2
  exact i2
 ·have hil : i < l.length := (List.getElem?_eq_some_iff.1 h2).1
  rw [List.getElem?_take, if_pos hil] at h1 h3
  have h2' : b.stack[i]? = some y := by rw [hl, List.getElem?_append_left hil]; exact h2
  obtain ⟨s', e', k⟩ := q5 i r y Ty h1 h2' h3
  exact ⟨s', e', .inl k⟩
def gj (b : Bd) : It := b.stack.getLast?.getD zIt
theorem vJ {b : Bd} {l : List It} {x : It} (hl : b.stack = l ++ [x]) : gj b = x := by simp [gj, hl]
def nU (b : Bd) : Bd × Int := if al b = false then (zBd, 2) else if b.stack = [] then (zBd, 9) else if (gj b).trig = -1 then ((dJ b (gj b).id 3).1, 0) else ({ b with stack := b.stack.dropLast }, 0)
def zG (b : Bd) : It := if al b = false then zIt else gj b
theorem Pe {H : Heap} {v : dr} {b : Bd} (h : BdS H v b) (hB : bdB b) :
  Triple PP mM [.agg (am v b).toArray] H [] fun r _ O' => ∃ w s A T, r = .tuple #[.agg (am w (nU b).1).toArray, .agg #[iV (zG b).player, iV (zG b).id, iV (zG b).card, iV (zG b).trig, s], iV (nU b).2] ∧
   O'.Perm (A ++ T) ∧ OwnB tys w (nU b).1 A ∧ OSl az 2 s (cO (zG b).tgs) T := by
 by_cases hv : al b = true
 case neg =>
  have hv : al b = false := by simpa using hv
  have e : nU b = (zBd, 2) := by rw [nU, if_pos hv]
  have e2 : zG b = zIt := by rw [zG, if_pos hv]
  rw [e, e2]
  refine (MO h hv).mono ?_
  rintro r H' O' _ ⟨rfl, rfl⟩
  exact ⟨sP, .slice none 0 0, [], [], rfl, List.Perm.refl _, OwnB.zero tys, OSl.nil _ _⟩
 have e2 : zG b = gj b := by rw [zG, if_neg (by rw [hv]; simp)]
 refine rm (vs := am v b) (by kernel_rfl) (an (h.r [])) ?_
 simp only [qW]
 have h200 := vw hv
 refine ae fun r0 => ae fun r1 => ae fun r2 => ?_
 refine aa ?_
 refine ai (cz (h.r [])) rfl ⟨rfl, trivial⟩ fun H1 l1 => ?_
 rw [hv]
 have h := h.le l1
 have slen : aj .len [v.s] = some (iV b.stack.length) := ItsR.len (h.stack.r [])
 refine ab _ (aB _) (ak (fun hd => by cases hd) (fun _ => ?_))
 refine aa ?_
 refine ab _ slen ?_
 refine ab _ (aA _ _) (ak (fun h0 => ?_) (fun h0 => ?_))
 ·have h0 : b.stack = [] := List.length_eq_zero_iff.1 (by have : (b.stack.length : Int) = 0 := (by simpa using h0); omega)
  have e : nU b = (zBd, 9) := by rw [nU, if_neg (by rw [hv]; simp), if_pos h0]
  have e3 : gj b = zIt := by simp [gj, h0]
  rw [e, e2, e3]
  refine aa (aa (aa (aa ?_)))
  exact ah ⟨sP, .slice none 0 0, [], [], rfl, List.Perm.refl _, OwnB.zero tys, OSl.nil _ _⟩
 have hne : b.stack ≠ [] := fun e => by rw [e] at h0; simp at h0
 obtain ⟨l, x, hl⟩ := Eh hne
 have hlen : b.stack.length = l.length + 1 := by rw [hl]; simp
 have hxf := jD hv (x := x) (by rw [hl]; simp)
 have hxid : i64 x.id := by
  simp only [jr, ap, Bool.and_eq_true, decide_eq_true_eq] at hxf
  constructor <;> omega
 have esub : ((b.stack.length : Int) - 1) = (l.length : Int) := by omega
 have etop := vJ hl
 rw [e2, etop]
 refine aa ?_
 refine ao (Jo h hB) ?_
 rintro _ H4 O4 ⟨w, rfl, ho⟩ l4
 refine ⟨am w b, rfl, aT H4 ho.weak, ?_⟩
 rw [List.append_nil]
 have h := h.le l4
 obtain ⟨A, T, s4, a4, u, p1, i1, hs4, rd, hu, hpop⟩ := MN ho hl
 refine ae fun r3 => ?_
 refine aa (aa ?_)
 refine ab _ (JA (by omega) (by omega)) ?_
 rw [esub]
 refine ab _ i1 (ax (rd H4) rfl ⟨rfl, rfl, rfl, rfl, hs4.one, trivial⟩ (ae fun r4 => ?_))
 refine aa (aa ?_)
 refine ab _ (aA _ _) (ak (fun ht => ?_) (fun ht => ?_))
 ·have ht : x.trig = -1 := by simpa using ht
  have e : nU b = ((dJ b x.id 3).1, 0) := by rw [nU, if_neg (by rw [hv]; simp), if_neg hne, etop, if_pos ht]
  rw [e]
  refine aa (aa ?_)
  refine ao (CB h hB hxid 3) ?_
  rintro _ H5 O5 ⟨w5, rfl, ho5⟩ l5
  refine ⟨am w5 (dJ b x.id 3).1 ++ [iV (dJ b x.id 3).2], rfl, ar (aT H5 ho5) ⟨rfl, trivial⟩, ?_⟩
  repeat (first | refine aa ?_ | refine af ?_ | refine aH rfl ?_)
  refine tj (O' := O5 ++ T) (Y := A) ?_ ⟨w5, s4, O5, T, rfl, List.Perm.refl _, ho5, hs4⟩
  rw [List.append_assoc]
  exact (p1.trans List.perm_append_comm).append_left O5
 ·have ht : x.trig ≠ -1 := by simpa using ht
  have e : nU b = ({ b with stack := l }, 0) := by rw [nU, if_neg (by rw [hv]; simp), if_neg hne, etop, if_neg ht, hl, List.dropLast_concat]
  rw [e]
  refine aa ?_
  refine ab _ (JA (by omega) (by omega)) ?_
  rw [esub]
  refine ab _ hu ?_
  repeat (first | refine aa ?_ | refine af ?_ | refine aH rfl ?_)
  exact ah ⟨{ w with s := u }, s4, A, T, rfl, p1, hpop, hs4⟩
def cJ (b : Bd) (id : Int) : Bd × Int := if (aU b id == 2) = true then (zBd, 2) else if (aU b id != 0 || (pP b id).2.1 != 4) = true then (zBd, 9) else dJ b id 3
theorem CG {H : Heap} {v : dr} {b : Bd} (h : BdS H v b) (hB : bdB b) {id : Int} (hid : i64 id) : Triple PP oS [.agg (am v b).toArray, iV id] H [] fun r _ O' => ∃ w, r = .tuple #[.agg (am w (cJ b id).1).toArray, iV (cJ b id).2] ∧ OwnB tys w (cJ b id).1 O' := by
 refine sZ (vs := am v b ++ [iV id]) (by kernel_rfl) (ar (an (h.r [])) ⟨rfl, trivial⟩) ?_
 simp only [oC]
 refine ae fun r0 => ae fun r1 => ?_
 refine aa ?_
 refine ai (Ai h hid []) rfl (vs := Hn (pP b id) ++ [iV (aU b id)]) ⟨rfl, rfl, rfl, rfl, trivial⟩ fun H1 l1 => ae fun r2 => ?_
 have h := h.le l1
 refine aa ?_
 refine ab _ (aA _ _) (ak (fun hb => ?_) (fun hb => ?_))
 ·have hb : (aU b id == 2) = true := hb
  have e : cJ b id = (zBd, 2) := by rw [cJ, if_pos hb]
  have e2 : aU b id = 2 := by simpa using hb
  rw [e, e2]
  refine aa (aa ?_)
  exact ah ⟨sP, rfl, OwnB.zero tys⟩
 have hb : (aU b id == 2) = false := hb
 refine ab _ (aV _ _) ?_
 refine aa (af (af ?_))
 refine ab _ (aV _ _) ?_
 refine af ?_
 refine ab _ (aM _ _) (ak (fun hc => ?_) (fun hc => ?_))
 ·have e : cJ b id = (zBd, 9) := by rw [cJ, if_neg (by rw [hb]; simp), if_pos hc]
  rw [e]
  refine aa (aa ?_)
  exact ah ⟨sP, rfl, OwnB.zero tys⟩
 have hc : (aU b id != 0 || (pP b id).2.1 != 4) = false := hc
 have e : cJ b id = dJ b id 3 := by rw [cJ, if_neg (by rw [hb]; simp), if_neg (by rw [hc]; simp)]
 rw [e]
 refine aa ?_
 refine ao (CB h hB hid 3) ?_
 rintro _ H5 O5 ⟨w5, rfl, ho5⟩ l5
 refine ⟨am w5 (dJ b id 3).1 ++ [iV (dJ b id 3).2], rfl, ar (aT H5 ho5) ⟨rfl, trivial⟩, ?_⟩
 rw [List.append_nil]
 refine aa (aa ?_)
 exact ah ⟨w5, rfl, ho5⟩
def szS (n : Nat) (s : St) : Prop := s.lib.length ≤ n ∧ s.hand.length ≤ n ∧ s.field.length ≤ n ∧ s.grave.length ≤ n
def szI (n : Nat) (l : List It) : Prop := l.length ≤ n ∧ ∀ x ∈ l, x.tgs.length ≤ n
def szB (n : Nat) (b : Bd) : Prop := b.objs.length ≤ n ∧ szS n b.s0 ∧ szS n b.s1 ∧ szI n b.stack ∧ szI n b.queue ∧ b.att.length ≤ n ∧ b.blocks.length ≤ n
theorem szS.le {n m : Nat} {s : St} (h : szS n s) (hm : n ≤ m) : szS m s := ⟨Nat.le_trans h.1 hm, Nat.le_trans h.2.1 hm, Nat.le_trans h.2.2.1 hm, Nat.le_trans h.2.2.2 hm⟩
theorem szI.le {n m : Nat} {l : List It} (h : szI n l) (hm : n ≤ m) : szI m l := ⟨Nat.le_trans h.1 hm, fun x hx => Nat.le_trans (h.2 x hx) hm⟩
theorem szB.le {n m : Nat} {b : Bd} (h : szB n b) (hm : n ≤ m) : szB m b :=
 ⟨Nat.le_trans h.1 hm, szS.le h.2.1 hm, szS.le h.2.2.1 hm, szI.le h.2.2.2.1 hm, szI.le h.2.2.2.2.1 hm, Nat.le_trans h.2.2.2.2.2.1 hm, Nat.le_trans h.2.2.2.2.2.2 hm⟩
theorem Px {n : Nat} {b : Bd} (h : szB n b) (hn : n ≤ 100000) : bdB b := by
 obtain ⟨a1, a2, a3, a4, a5, a6, a7⟩ := szB.le h (show n ≤ 1000000 by omega)
 exact ⟨a1, a2, a3, a4, a5, a6, a7⟩
theorem Ep {b : Bd} (h : zr b = true) : szB 40 b := by
 simp only [zr, zp, vB, Bool.and_eq_true, Bool.not_eq_true', decide_eq_false_iff_not, decide_eq_true_eq, List.all_eq_true] at h
 obtain ⟨⟨a1, a2, a3, a4⟩, ⟨b1, b2, b3, b4⟩, ⟨c1, c2⟩, ⟨d1, d2⟩, ⟨e1, e2⟩, e3⟩ := h
 refine ⟨by omega, ⟨by omega, by omega, by omega, by omega⟩, ⟨by omega, by omega, by omega, by omega⟩, ⟨by omega, fun x hx => ?_⟩, ⟨by omega, fun x hx => ?_⟩, by omega, by omega⟩
 ·have := c2 x hx; omega
 ·have := d2 x hx; omega
theorem JL {n m : Nat} {b : Bd} {l : List It} (h : szB n b) (hm : n ≤ m) (hl : szI m l) : szB m { b with stack := l } := by
 obtain ⟨a1, a2, a3, _, a5, a6, a7⟩ := szB.le h hm
 exact ⟨a1, a2, a3, hl, a5, a6, a7⟩
theorem szI.app {n : Nat} {l : List It} (h : szI n l) {x : It} (hx : x.tgs.length ≤ n + 1) : szI (n + 1) (l ++ [x]) := by
 refine ⟨by have := h.1; simp; omega, fun y hy => ?_⟩
 rcases List.mem_append.1 hy with hy | hy
 ·have := h.2 y hy; omega
 ·rw [List.mem_singleton.1 hy]; exact hx
theorem Oh {n : Nat} {b : Bd} (h : szB n b) (id : Int) : szB n (kl b id) := by
 obtain ⟨a1, a2, a3, a4, a5, a6, a7⟩ := h
 have hw : ∀ {l : List Int}, l.length ≤ n → (bW l id).length ≤ n := fun h => Nat.le_trans (List.length_filter_le _ _) h
 exact ⟨a1, ⟨hw a2.1, hw a2.2.1, hw a2.2.2.1, hw a2.2.2.2⟩, ⟨hw a3.1, hw a3.2.1, hw a3.2.2.1, hw a3.2.2.2⟩, ⟨Nat.le_trans (List.length_filter_le _ _) a4.1, fun x hx => a4.2 x (List.mem_filter.1 hx).1⟩, a5, hw a6, Nat.le_trans (List.length_filter_le _ _) a7⟩
theorem Hh {n : Nat} {s : St} (h : szS n s) (z id : Int) : szS (n + 1) (Do s z id) := by
 obtain ⟨h1, h2, h3, h4⟩ := h
 simp only [Do]
 split
 ·exact ⟨by simp; omega, by show s.hand.length ≤ n + 1; omega, by show s.field.length ≤ n + 1; omega, by show s.grave.length ≤ n + 1; omega⟩
 split
 ·exact ⟨by show s.lib.length ≤ n + 1; omega, by simp; omega, by show s.field.length ≤ n + 1; omega, by show s.grave.length ≤ n + 1; omega⟩
 split
 ·exact ⟨by show s.lib.length ≤ n + 1; omega, by show s.hand.length ≤ n + 1; omega, by simp; omega, by show s.grave.length ≤ n + 1; omega⟩
 split
 ·exact ⟨by show s.lib.length ≤ n + 1; omega, by show s.hand.length ≤ n + 1; omega, by show s.field.length ≤ n + 1; omega, by simp; omega⟩
 ·exact ⟨by omega, by omega, by omega, by omega⟩
theorem LZ {n : Nat} {b : Bd} (h : szB n b) (k : Nat) (o : Ob) (z : Int) : szB (n + 1) (eo b k o z) := by
 obtain ⟨a1, a2, a3, a4, a5, a6, a7⟩ := Oh h o.id
 simp only [eo, jM, aW, au]
 split
 ·exact ⟨by simp only [du, List.length_set]; omega, Hh a2 _ _, szS.le a3 (by omega), szI.le a4 (by omega), szI.le a5 (by omega), Nat.le_trans a6 (by omega), Nat.le_trans a7 (by omega)⟩
 ·exact ⟨by simp only [du, List.length_set]; omega, szS.le a2 (by omega), Hh a3 _ _, szI.le a4 (by omega), szI.le a5 (by omega), Nat.le_trans a6 (by omega), Nat.le_trans a7 (by omega)⟩
theorem o6 {n : Nat} {b : Bd} (h : szB n b) (id z : Int) : szB (n + 1) (dJ b id z).1 := by
 have hz : szB (n + 1) zBd := ⟨Nat.zero_le _, ⟨Nat.zero_le _, Nat.zero_le _, Nat.zero_le _, Nat.zero_le _⟩, ⟨Nat.zero_le _, Nat.zero_le _, Nat.zero_le _, Nat.zero_le _⟩, ⟨Nat.zero_le _, fun x hx => by cases hx⟩, ⟨Nat.zero_le _, fun x hx => by cases hx⟩, Nat.zero_le _, Nat.zero_le _⟩
 rw [dJ]
 split
 ·exact hz
 split
 ·exact hz
 ·exact LZ h _ _ _
section
variable {b : Bd} {k j : Nat} {o : Ob} {ts : List Tg}
variable (hk : b.objs[k]? = some o)
include hk
end
theorem Ic {b : Bd} (hv : al b = true) {k : Nat} {o : Ob} (e1 : b.objs[k]? = some o) (z : Int) (hz : z = 0 ∨ z = 1 ∨ z = 2 ∨ z = 3) : dJ b o.id z = (F2 b k (bm o z) z, 0) := by
 have e3 := (dN (aJ hv).1 e1).2.2.1
 have hE0 : aU b o.id = 0 := by
  have : ¬ oh b o.id < 0 := by omega
  simp [aU, hv, this]
 have hEne : (aU b o.id != 0) = false := by rw [hE0]; rfl
 have hfo := mD hEne e1 e3
 have emr : F2 b k (bm o z) z = eo b k (bm o z) z := by
  show jM (du (EL b o.id) k _) o.owner z o.id = jM (du (kl b o.id) k _) o.owner z o.id
  rw [Dq hv]
 have hzw : ap z 0 3 = true := by simp only [ap, decide_eq_true_eq]; omega
 rw [dJ, if_neg (by rw [hE0, hzw]; decide), if_neg (by rw [hEne]; simp), hfo, e3, emr]; rfl
theorem wn {H : Heap} {v : dr} {b : Bd} (h : BdS H v b) (hv : al b = true) (hB : bdB b) {k : Nat} {o : Ob} (hk : b.objs[k]? = some o) (z : Int) (hz : z = 0 ∨ z = 1 ∨ z = 2 ∨ z = 3) :
  Triple PP gq [.agg (am v b).toArray, iV o.id, iV z] H [] fun r H' O' => (∃ w, r = .agg (am w (dJ b o.id z).1).toArray ∧ BdS H' w (dJ b o.id z).1) ∧ O' = [] := by
 rw [Ic hv hk z hz]
 obtain ⟨_, _, e3, hown⟩ := dN (aJ hv).1 hk
 exact OA h hB hk e3 hown z
theorem Ln {b : Bd} (hv : al b = true) {x : It} (hx : x ∈ b.stack) (ht : x.trig < 0) : ∃ (k : Nat) (o : Ob), b.objs[k]? = some o ∧ o.id = x.id ∧ o.owner = x.player := by
 refine EY (aJ hv).1 (id := x.id) (p := x.player) ?_
 simp only [aI, List.mem_append]
 refine .inr (.inr ?_)
 simp only [ej, bD, List.mem_map, List.mem_filter, decide_eq_true_eq]
 exact ⟨x, ⟨hx, ht⟩, rfl⟩
structure Ac where
 (what id : Int)
 x : It
 t : Tg
def Ql (a : Ac) (s : Value) : List Value := [iV a.what, iV a.id, iV a.x.player, iV a.x.id, iV a.x.card, iV a.x.trig, s, iV a.t.id, iV a.t.player]
def ActsS (H : Heap) (v : Value) (l : List Ac) : Prop := ∃ rows, Sl H 9 v rows ∧ rows.length = l.length ∧ ∀ (i : Nat) (r : List Value) (a : Ac), rows[i]? = some r → l[i]? = some a → i64 a.id ∧ ∃ s, r = Ql a s ∧ Sl H 2 s (cO a.x.tgs)
theorem ActsS.le {H H' : Heap} {v : Value} {l : List Ac} (h : ActsS H v l) (hl : Heap.le H H') : ActsS H' v l :=
 let ⟨rows, h1, h2, h3⟩ := h; ⟨rows, h1.le hl, h2, fun i r x a b => let ⟨k0, s, e, k⟩ := h3 i r x a b; ⟨k0, s, e, k.le hl⟩⟩
theorem ActsS.len {H : Heap} {v : Value} {l : List Ac} (h : ActsS H v l) : aj .len [v] = some (iV l.length) := by
 obtain ⟨rows, h1, h2, _⟩ := h
 rw [← h2]; exact h1.len
theorem ActsS.one {H : Heap} {v : Value} {l : List Ac} (h : ActsS H v l) : v.oneCell' = true := by
 obtain ⟨rows, h1, _⟩ := h
 exact h1.one
def Br (b : Bd) (r : Bd × Int) : Bd := if r.2 = 0 then r.1 else b
section
variable {H : Heap} {cv : Value} {cs : List CdX} (hk : CardsX H cv cs) (hli : fu (cs.map CdX.base) = true) {v u : dr} {b : Bd} (h : BdS H v b) (hu : BdS H u b) (hv : al b = true) (hB : bdB b) (hfit : Qh b)
 {r1 r2 r3 r4 r5 r6 r7 r8 : Nat} {l0 l1 l2 : List Value} {n m : Nat} (q0 : g l0 0 = cv) (q1 : ag (G38 l0 1) = .agg (am v b).toArray) (q2 : ag (G38 l1 0) = .agg (am u b).toArray)
include hk hli h hu hv hB hfit q0 q1 q2
end
section
variable {H : Heap} {v u : dr} {b : Bd} (h : BdS H v b) (hu : BdS H u b) (hv : al b = true) (hB : bdB b)
 {r1 r2 r3 r4 r5 r6 r7 r8 : Nat} {l0 l1 : List Value} {n : Nat} (q1 : ag (G38 l0 1) = .agg (am v b).toArray) (q2 : ag (G38 l1 0) = .agg (am u b).toArray)
include h hu hv hB q1 q2
end
theorem OK (a b : Int) : aj (.bin .gtr .int) [.int .u8 a, .int .u8 b] = some (.bool (decide (a > b))) := by simp [aj, eh, dK]
theorem LJ {n : Int} (h : 0 ≤ n ∧ n ≤ 255) : aj (.conv .i64) [.int .u8 n] = some (iV n) := by
 simp only [aj]
 rw [fi (by omega) (by omega)]
theorem Bq {b : Bd} (hv : al b = true) {id : Int} {k : Nat} {o : Ob} (e1 : b.objs[k]? = some o) (e2 : o.id = id) {z : Int} (hz : z = 0 ∨ z = 1 ∨ z = 2 ∨ z = 3) : al (dJ b id z).1 = true := by
 have hm := Ic hv e1 z hz
 rw [e2] at hm
 have emr : F2 b k (bm o z) z = eo b k (bm o z) z := by
  show jM (du (EL b o.id) k _) o.owner z o.id = jM (du (kl b o.id) k _) o.owner z o.id
  rw [Dq hv]
 rw [hm, emr]
 exact yL hv e1 hz
section
variable {b : Bd} (hv : al b = true) {n : Nat} (hsz : szB n b)
include hv hsz
theorem M1 {r : Bd × Int} (h : r.2 ≠ 0) : al (Br b r) = true ∧ szB (n + 1) (Br b r) := by
 rw [Br, if_neg h]; exact ⟨hv, szB.le hsz (by omega)⟩
theorem Ko : al (Br b (nU b)) = true ∧ szB (n + 1) (Br b (nU b)) := by
 rw [nU, if_neg (by rw [hv]; simp)]
 by_cases hne : b.stack = []
 ·rw [if_pos hne]; exact M1 hv hsz (by show (9 : Int) ≠ 0; omega)
 rw [if_neg hne]
 obtain ⟨l, x, hl⟩ := Eh hne
 rw [vJ hl]
 by_cases ht : x.trig = -1
 ·rw [if_pos ht, Br, if_pos rfl]
  obtain ⟨k, o, f1, f2, _⟩ := Ln hv (x := x) (by rw [hl]; simp) (by omega)
  exact ⟨Bq hv f1 f2 (by omega), o6 hsz _ _⟩
 ·have hxf := jD hv (x := x) (by rw [hl]; simp)
  have htr : ¬ x.trig < 0 := by
   simp only [jr, Bool.and_eq_true] at hxf
   have := of_decide_eq_true hxf.2.2.2.1
   omega
  rw [if_neg ht, Br, if_pos rfl]
  have hst := hsz.2.2.2.1
  rw [hl] at hst
  rw [hl, List.dropLast_concat]
  refine ⟨HH hv hl htr, JL hsz (by omega) ⟨?_, fun q hq => by have := hst.2 q (List.mem_append_left _ hq); omega⟩⟩
  have := hst.1; rw [List.length_append] at this; omega
end
theorem Nj (x y : Int) : aj .min2 [iV x, iV y] = some (iV (min x y)) := by
 simp only [aj]; congr 2; omega
theorem wP (x y : Int) : aj .max2 [iV x, iV y] = some (iV (max x y)) := by
 simp only [aj]; congr 2; omega
theorem tP {x y : Int} (h1 : -9223372036854775808 ≤ x + y) (h2 : x + y < 9223372036854775808) : aj (.bin .add .int) [iV x, iV y] = some (iV (x + y)) := by
 simp only [aj, eh, dK, if_true]
 rw [fi (by omega) (by omega)]
def JJ (p : Int) : Int := max 0 (min p 99)
theorem Gx {H : Heap} {O : Own} {p : Int} (h0 : 0 ≤ p) (hp : p < 9223372036854775808) : RetO PP tU [iV 0, iV p] H O (iV p) := by
 refine ue (vs := [iV 0, iV p]) (by kernel_rfl) ⟨rfl, rfl, trivial⟩ ?_
 simp only [tQ]
 refine ab _ (tP (by omega) (by omega)) (ab _ (eJ _ _) ?_)
 refine af ?_
 refine ab _ (eJ _ _) ?_
 refine af ?_
 refine ab _ (bA _ _) ?_
 refine af ?_
 refine ab _ (og _ _) ?_
 refine af ?_
 refine ab _ (bA _ _) (ak (fun hb => by simp at hb) (fun _ => ?_))
 refine ab _ (aN _ _) ?_
 refine af ?_
 refine ab _ (aN _ _) ?_
 refine af ?_
 refine ab _ (bA _ _) ?_
 refine af ?_
 refine ab _ (eK _ _) ?_
 refine af ?_
 refine ab _ (bA _ _) (ak (fun hb => by simp at hb) (fun _ => ?_))
 exact ah ⟨by rw [Int.zero_add], rfl⟩
theorem D5 {H : Heap} {O : Own} (p m : Int) : RetO PP xY [iV p, iV m] H O (iV (max 0 (min p m))) := by
 refine zt (vs := [iV p, iV m]) (by kernel_rfl) ⟨rfl, rfl, trivial⟩ ?_
 simp only [xQ]
 exact ab _ (Nj _ _) (ab _ (wP _ _) (ah ⟨rfl, rfl⟩))
theorem Jc {H : Heap} {O : Own} {p : Int} (h0 : 0 ≤ p) (hp : p < 9223372036854775808) : RetO PP xZ [iV 0, iV p, iV 99] H O (iV (JJ p)) := by
 refine vS (vs := [iV 0, iV p, iV 99]) (by kernel_rfl) ⟨rfl, rfl, rfl, trivial⟩ ?_
 simp only [xR]
 exact ai (Gx h0 hp) rfl ⟨rfl, trivial⟩ fun _ _ => ai (D5 p 99) rfl ⟨rfl, trivial⟩ fun _ _ => ah ⟨rfl, rfl⟩
theorem LL {H : Heap} {O : Own} {p : Int} (hp : p < 9223372036854775808) : RetO PP mN [iV 0, iV p] H O (iV (JJ p)) := by
 refine nK (vs := [iV 0, iV p]) (by kernel_rfl) ⟨rfl, rfl, trivial⟩ ?_
 simp only [mK]
 refine ab _ (wP _ _) (ab _ (wP _ _) ?_)
 rw [show max (0 : Int) 0 = 0 by omega]
 refine ai (Jc (p := max 0 p) (by omega) (by omega)) rfl ⟨rfl, trivial⟩ fun _ _ => ah ⟨?_, rfl⟩
 show iV _ = iV _
 congr 1; simp only [JJ]; omega
def yi (id p pw tn : Int) (sick : Bool) : Ob := { zO with id := id, card := -1, owner := p, power := JJ pw, tough := JJ tn, sick := sick }
theorem yw {H : Heap} {O : Own} {id p pw tn : Int} (h1 : pw < 9223372036854775808) (h2 : tn < 9223372036854775808) : RetO PP qy [iV id, iV p, iV pw, iV tn] H O (.agg (yi id p pw tn false).row.toArray) := by
 refine u5 (vs := [iV id, iV p, iV pw, iV tn]) (by kernel_rfl) ⟨rfl, rfl, rfl, rfl, trivial⟩ ?_
 simp only [qf]
 refine ae fun r0 => ai (LL h1) rfl ⟨rfl, trivial⟩ fun _ _ => ai (LL h2) rfl ⟨rfl, trivial⟩ fun _ _ => ?_
 refine aa (aa ?_)
 exact ah ⟨rfl, rfl⟩
theorem Oe : ∀ k : Nat, k < 64 → (bruijn.drop (2 ^ k * 285870213051353865 % 2 ^ 64 / 2 ^ 58)).take 1 = [(k : Int)] := by decide +kernel
theorem PY (a b : Nat) : aj (.bin .mul .int) [uV a, uV b] = some (uV (a * b % 2 ^ 64)) := by
 show some (Value.int .u64 (IntKind.u64.wrap ((a : Int) * b))) = _
 congr 2
theorem PR (a : Nat) : aj (.bin .shr .int) [uV a, uV 58] = some (uV (a / 2 ^ 58)) := by
 show some (Value.int .u64 ((a : Int).fdiv (2 ^ 58))) = _
 congr 2
 rw [Int.fdiv_eq_ediv_of_nonneg _ (by omega)]
 omega
theorem QQ {H : Heap} (hgl : GlobOk tC H) (O : Own) {x k m : Nat} (hx : x < 2 ^ 64) (hk : k < 64) (e : x = 2 ^ k * (2 * m + 1)) : RetO PP dD [uV x] H O (iV k) := by
 have hp := Nat.two_pow_pos k
 have h0 : 0 < x := by rw [e]; exact Nat.mul_pos hp (by omega)
 have hpk : 2 ^ k < 2 ^ 64 := Nat.pow_lt_pow_right (by omega) hk
 have t2 := Oe k hk
 have t1 := PY (2 ^ k) 285870213051353865
 refine eH (vs := [uV x]) (by kernel_rfl) ⟨rfl, trivial⟩ ?_
 simp only [dB]
 refine ab _ (OM x 0) (ak (fun hb => ?_) (fun _ => ?_))
 ·have : x = 0 := by simpa using hb
  omega
 ·refine ab _ (PX hx h0) (ab _ (Ph hx (by omega)) ?_)
  rw [Nr hx e]
  generalize hM : 2 ^ k * 285870213051353865 % 2 ^ 64 = M at t1 t2
  have hM64 : M < 2 ^ 64 := by rw [← hM]; exact Nat.mod_lt _ (by omega)
  have hi : M / 2 ^ 58 < 64 := by omega
  refine ab _ t1 (ab _ (PR M) ?_)
  have hpi : aj (.pidx 64 1) [.pointer (some ⟨0, 0, none⟩), uV (M / 2 ^ 58)] = some (.pointer (some ⟨0, M / 2 ^ 58, none⟩)) := by
   show (if (0 : Int) ≤ ((M / 2 ^ 58 : Nat) : Int) ∧ ((M / 2 ^ 58 : Nat) : Int) < (64 : Nat) then some (Value.pointer (some (Addr.add ⟨0, 0, none⟩ (((M / 2 ^ 58 : Nat) : Int).toNat * 1)))) else none) = _
   rw [if_pos ⟨by omega, by omega⟩, Int.toNat_natCast, Nat.mul_one, Addr.add]
   by_cases h : M / 2 ^ 58 = 0
   ·rw [if_pos h, h]
   ·rw [if_neg h]; simp
  have hrd : H.read (.pointer (some ⟨0, M / 2 ^ 58, none⟩)) 1 = some [Value.int .u8 k] := by
   have := (hgl 0 (bruijn.map fun n => Value.int .u8 n) rfl).2 (M / 2 ^ 58) 1 (by rw [List.length_map]; show _ ≤ 64; omega)
   rw [this, ← List.map_drop, ← List.map_take, t2]; rfl
  refine ab _ hpi (fL hrd rfl ⟨rfl, trivial⟩ (ab (iV k) ?_ (ah ⟨rfl, rfl⟩)))
  show some (Value.int .i64 (IntKind.i64.wrap (k : Int))) = _
  rw [fi (by omega) (by omega)]
theorem Qa {H : Heap} (O : Own) : RetO PP dD [uV 0] H O (iV 64) := by
 refine eH (vs := [uV 0]) (by kernel_rfl) ⟨rfl, trivial⟩ ?_
 simp only [dB]
 exact ab _ (OM 0 0) (ak (fun _ => ah ⟨rfl, rfl⟩) (fun hb => by simp at hb))
def yg (ws : List Nat) : List (List Value) := ws.map fun w => [uV w]
def Pl (p : Value) (ws : List Nat) (O : Own) : Prop :=
 ∃ r s A, p = .pointer (some ⟨r, 0, none⟩) ∧ O = (r, .cells #[iV 500, s] aQ (0, 0)) :: A ∧ OSl rY 1 s (yg ws) A
theorem rW {r : Nat} {s : Value} {A : Own} {H : Heap} : Reads H ((r, .cells #[iV 500, s] aQ (0, 0)) :: A) (.pointer (some ⟨r, 0, none⟩)) 1 [iV 500] :=
 .inr ⟨⟨r, 0, none⟩, _, _, rfl, rfl, List.mem_cons_self, rfl, rfl⟩
theorem xJ {r : Nat} {s : Value} {A : Own} {H : Heap} : Reads H ((r, .cells #[iV 500, s] aQ (0, 0)) :: A) (bz (.pointer (some ⟨r, 0, none⟩)) 1) 1 [s] :=
 .inr ⟨⟨r, 1, none⟩, _, _, rfl, rfl, List.mem_cons_self, rfl, rfl⟩
theorem KQ {H : Heap} : Triple PP ya [iV 500] H [] fun v H' O' => ∃ p, v = .tuple #[p, iV 0] ∧ Pl p (List.replicate 8 0) O' := by
 refine zu (vs := [iV 500]) (by kernel_rfl) ⟨rfl, trivial⟩ ?_
 simp only [xT]
 refine ab _ (aN _ _) (af (ab _ (aN _ _) (af (ab _ (aN _ _) ?_))))
 refine ak (fun hb => by simp at hb) (fun _ => ?_)
 refine ab (iV 564) (by kernel_rfl) ?_
 refine ab (iV 563) (by kernel_rfl) ?_
 refine ab (iV (8 : Nat)) (by kernel_rfl) ?_
 refine Ku (n := 8) (elem := rY) (z := uV 0) (by kernel_rfl) (by kernel_rfl) (by kernel_rfl) (by kernel_rfl) rfl (by omega) fun s A hs => ?_
 refine ae fun r0 => ?_
 exact fun _ => ⟨H, _, Ghost.refl _ _, _, rfl, r0, s, A, rfl, by simp [BV.obj, g], hs⟩
theorem LK {H : Heap} {r : Nat} {s : Value} {A : Own} (hs : s.oneCell' = true) : RetO PP nb [.pointer (some ⟨r, 0, none⟩)] H ((r, .cells #[iV 500, s] aQ (0, 0)) :: A) (.bool false) := by
 refine ru (vs := [.pointer (some ⟨r, 0, none⟩)]) (by kernel_rfl) ⟨rfl, trivial⟩ ?_
 simp only [mU]
 refine ab (.bool false) rfl ?_
 refine aH rfl (af (aH rfl (af (af ?_))))
 refine ⟨[iV 500], rfl, ⟨rfl, trivial⟩, fun _ => rW, ?_⟩
 refine af (ab _ (aA _ _) (af (ab _ (aA _ _) ?_)))
 exact ah ⟨rfl, rfl⟩
theorem Db {x y : Int} (h1 : -9223372036854775808 ≤ x - y) (h2 : x - y < 9223372036854775808) : aj (.bin .sub .int) [iV x, iV y] = some (iV (x - y)) := by
 simp only [aj, eh, dK, if_true]
 rw [fi (by omega) (by omega)]
abbrev idV (q r : Nat) : Value := iV (((64 * q + r : Nat) : Int) + 1)
theorem LE {q r : Nat} (hq : q < 8) (hr : r < 64) : aj (.bin .sub .int) [idV q r, iV 1] = some (iV ((64 * q + r : Nat) : Int)) := by
 rw [Db (by omega) (by omega)]
 congr 2; omega
theorem OJ {q r : Nat} (hq : q < 8) (hr : r < 64) : aj (.bin .quo .int) [iV ((64 * q + r : Nat) : Int), iV 64] = some (iV (q : Int)) := by
 show some (Value.int .i64 (IntKind.i64.wrap (((64 * q + r) / 64 : Nat) : Int))) = _
 rw [fi (by omega) (by omega), show (64 * q + r) / 64 = q by omega]
theorem OI {q r : Nat} (hr : r < 64) : aj (.bin .rem .int) [iV ((64 * q + r : Nat) : Int), iV 64] = some (iV (r : Int)) := by
 show some (Value.int .i64 (((64 * q + r) % 64 : Nat) : Int)) = _
 rw [show (64 * q + r) % 64 = r by omega]
theorem re {ws : List Nat} {q : Nat} (h : q < ws.length) : (yg ws)[q]? = some [uV ws[q]] := by simp [yg, h]
theorem GQ (ws : List Nat) (q w : Nat) : (yg ws).set q [uV w] = yg (ws.set q w) := by simp [yg, List.map_set]
theorem Qc {H : Heap} {r0 : Nat} {s : Value} {A : Own} {ws : List Nat} (hs : OSl rY 1 s (yg ws) A) (hl : ws.length = 8) {q r : Nat} (hq : q < 8) (hr : r < 64) {a : Addr} (ha : aj (.idx 1) [s, iV (q : Int)] = some (.pointer (some a))) :
  RetO PP oU [.pointer (some ⟨r0, 0, none⟩), idV q r] H ((r0, .cells #[iV 500, s] aQ (0, 0)) :: A) (.tuple #[.pointer (some a), uV (2 ^ r)]) := by
 refine s5 (vs := [.pointer (some ⟨r0, 0, none⟩), idV q r]) (by kernel_rfl) ⟨rfl, rfl, trivial⟩ ?_
 simp only [oD]
 refine aH rfl (aH rfl ?_)
 refine ⟨[s], rfl, ⟨hs.one, trivial⟩, fun _ => xJ, ?_⟩
 refine ab _ (LE hq hr) ?_
 refine ab _ (OJ hq hr) ?_
 refine ab _ ha ?_
 refine ab _ (LE hq hr) ?_
 refine ab _ (OI hr) ?_
 refine ab _ (PS hr) ?_
 exact ah ⟨rfl, rfl⟩
theorem NP {H : Heap} {r0 : Nat} {s : Value} {A : Own} {ws : List Nat} (hs : OSl rY 1 s (yg ws) A) (hl : ws.length = 8) {q r : Nat} (hq : q < 8) (hr : r < 64) (h5 : 64 * q + r < 500) {a : Addr} (ha : aj (.idx 1) [s, iV (q : Int)] = some (.pointer (some a))) :
  RetO PP lX [.pointer (some ⟨r0, 0, none⟩), idV q r] H ((r0, .cells #[iV 500, s] aQ (0, 0)) :: A) (.tuple #[.pointer (some a), uV (2 ^ r), iV 0]) := by
 refine qJ (vs := [.pointer (some ⟨r0, 0, none⟩), idV q r]) (by kernel_rfl) ⟨rfl, rfl, trivial⟩ ?_
 simp only [lS]
 refine ai (LK hs.one) rfl ⟨rfl, trivial⟩ fun H1 l1 => ?_
 refine ak (fun hb => by cases hb) (fun _ => ?_)
 refine ab _ (aN _ _) ?_
 refine aH rfl (af (aH rfl (af (af ?_))))
 refine ⟨[iV 500], rfl, ⟨rfl, trivial⟩, fun _ => rW, ?_⟩
 refine af (af ?_)
 refine ab _ (eJ _ _) ?_
 refine af ?_
 refine ab _ (aM _ _) ?_
 refine ak (fun hb => ?_) (fun _ => ?_)
 ·simp at hb; omega
 ·refine ai (Qc hs hl hq hr ha) rfl ⟨rfl, rfl, trivial⟩ fun H2 l2 => ?_
  exact ah ⟨rfl, rfl⟩
theorem MR {w r : Nat} (h : w.testBit r = true) : w ||| 2 ^ r = w := by
 refine Nat.eq_of_testBit_eq fun j => ?_
 rw [Nat.testBit_or, Nat.testBit_two_pow]
 by_cases e : r = j
 ·subst e; rw [h]; rfl
 ·rw [decide_eq_false e, Bool.or_false]
theorem NY {w r : Nat} : (w &&& 2 ^ r != 0) = w.testBit r := by
 have e : w &&& 2 ^ r = if w.testBit r then 2 ^ r else 0 := by
  refine Nat.eq_of_testBit_eq fun j => ?_
  rw [Nat.testBit_and, Nat.testBit_two_pow]
  by_cases e : r = j
  ·subst e; cases w.testBit r <;> simp
  ·rw [decide_eq_false e, Bool.and_false]; split
   ·rw [Nat.testBit_two_pow, decide_eq_false e]
   ·simp
 rw [e]
 have := Nat.two_pow_pos r
 cases w.testBit r <;> simp
def xr (ws : List Nat) (q r : Nat) : List Nat := ws.set q (ws.getD q 0 ||| 2 ^ r)
theorem NU {H : Heap} {p : Value} {O : Own} {ws : List Nat} (h : Pl p ws O) (hl : ws.length = 8) (hw : ∀ w ∈ ws, w < 2 ^ 64) {q r : Nat} (hr : r < 64) (h5 : 64 * q + r < 500) :
  Triple PP lY [p, idV q r] H O fun v H' O' => (∃ e, v = iV e) ∧ Pl p (xr ws q r) O' := by
 obtain ⟨r0, s, A, rfl, rfl, hs⟩ := h
 have hq : q < 8 := by omega
 have hql : q < ws.length := by omega
 have hwq := hw _ (List.getElem_mem hql)
 have hgd : ws.getD q 0 = ws[q] := by rw [List.getD_eq_getElem?_getD, List.getElem?_eq_getElem hql]; rfl
 obtain ⟨a, ha, hst⟩ := hs.store (O := (r0, .cells #[iV 500, s] aQ (0, 0)) :: A) (O2 := [(r0, .cells #[iV 500, s] aQ (0, 0))]) (by simpa using List.perm_append_comm (l₁ := [(r0, Obj.cells #[iV 500, s] aQ (0, 0))]) (l₂ := A)) (k := .i64) (re hql)
 obtain ⟨a', ha', _, hrd, _⟩ := hs.idx (O := (r0, .cells #[iV 500, s] aQ (0, 0)) :: A) (fun p hp => List.mem_cons_of_mem _ hp) H (k := .i64) (re hql)
 obtain rfl : a' = a := by rw [ha] at ha'; simpa using ha'.symm
 have hrd : ∀ H', Reads H' ((r0, .cells #[iV 500, s] aQ (0, 0)) :: A) (.pointer (some a')) 1 [uV ws[q]] := fun H' => by
  obtain ⟨a2, h2, _, h3, _⟩ := hs.idx (O := (r0, .cells #[iV 500, s] aQ (0, 0)) :: A) (fun p hp => List.mem_cons_of_mem _ hp) H' (k := .i64) (re hql)
  obtain rfl : a2 = a' := by rw [h2] at ha; simpa using ha
  exact h3
 refine qK (vs := [.pointer (some ⟨r0, 0, none⟩), idV q r]) (by kernel_rfl) ⟨rfl, rfl, trivial⟩ ?_
 simp only [lT]
 refine ai (NP hs hl hq hr h5 ha) rfl ⟨rfl, rfl, rfl, trivial⟩ fun H1 l1 => ?_
 refine ab _ (aV _ _) ?_
 refine ak (fun hb => by cases hb) (fun _ => ?_)
 refine aH rfl ?_
 refine ⟨[uV ws[q]], rfl, ⟨rfl, trivial⟩, fun _ => hrd H1, ?_⟩
 have hp2 : 2 ^ r < 2 ^ 64 := Nat.pow_lt_pow_right (by omega) hr
 refine ab _ (Ph hwq hp2) ?_
 refine ab _ (Nc _ 0) ?_
 refine ak (fun hb => ?_) (fun _ => ?_)
 ·rw [NY] at hb
  refine ah ⟨⟨11, rfl⟩, r0, s, A, rfl, rfl, ?_⟩
  rw [xr, hgd, MR hb, List.set_getElem_self]
  exact hs
 ·refine aH rfl ?_
  refine ⟨[uV ws[q]], rfl, ⟨rfl, trivial⟩, fun _ => hrd H1, ?_⟩
  refine ab _ (Qw hwq hp2) ?_
  refine aH rfl (aH rfl ?_)
  obtain ⟨O1, hs1, hs2⟩ := hst 0 [uV (ws[q] ||| 2 ^ r)] (Nat.le_refl _) ⟨rfl, trivial⟩
  refine ⟨_, hs1, ?_⟩
  refine fun _ => ⟨_, _, Ghost.perm (List.perm_append_comm (l₁ := O1) (l₂ := [(r0, Obj.cells #[iV 500, s] aQ (0, 0))])), ⟨0, rfl⟩, r0, s, O1, rfl, rfl, ?_⟩
  rw [xr, hgd, ← GQ]
  exact hs2
theorem I7 {ws : List Nat} {q r : Nat} (hr : r < 64) (hw : ∀ w ∈ ws, w < 2 ^ 64) : ∀ w ∈ xr ws q r, w < 2 ^ 64 := by
 intro w h
 rcases List.mem_or_eq_of_mem_set h with h | rfl
 ·exact hw w h
 ·refine Nat.or_lt_two_pow ?_ (Nat.pow_lt_pow_right (by omega) hr)
  rw [List.getD_eq_getElem?_getD]
  cases e : ws[q]? with
  | none => simp
  | some x => exact hw x (List.mem_of_getElem? e)
structure BitsOk (ws : List Nat) (inS : Nat → Bool) : Prop where
 len : ws.length = 8
 lt : ∀ w ∈ ws, w < 2 ^ 64
 bit : ∀ q r, q < 8 → r < 64 → (ws.getD q 0).testBit r = inS (64 * q + r)
theorem Ld : BitsOk (List.replicate 8 0) fun _ => false where
 len := rfl
 lt := fun w h => by rw [List.eq_of_mem_replicate h]; omega
 bit := fun q r hq _ => by
  rw [List.getD_eq_getElem?_getD, List.getElem?_replicate, if_pos hq]; simp
theorem BitsOk.claim {ws : List Nat} {inS : Nat → Bool} (h : BitsOk ws inS) {q r : Nat} (hq : q < 8) (hr : r < 64) : BitsOk (xr ws q r) fun m => inS m || m == 64 * q + r where
 len := by rw [xr, List.length_set]; exact h.len
 lt := I7 hr h.lt
 bit := fun q' r' hq' hr' => by
  have hl := h.len
  rw [xr, List.getD_eq_getElem?_getD, List.getElem?_set]
  by_cases e : q = q'
  ·subst e
   rw [if_pos rfl, if_pos (by omega), Option.getD_some, Nat.testBit_or, Nat.testBit_two_pow, h.bit q r' hq hr']
   congr 1
   rw [Bool.eq_iff_iff]; simp; omega
  ·rw [if_neg e, ← List.getD_eq_getElem?_getD, h.bit q' r' hq' hr']
   have : (64 * q' + r' == 64 * q + r) = false := by simp; omega
   rw [this, Bool.or_false]
def Qm (inS : Nat → Bool) (v : Value) : Prop :=
 (∃ m : Nat, m < 500 ∧ inS m = false ∧ (∀ j, j < m → inS j = true) ∧ v = .tuple #[iV ((m : Int) + 1), iV 0]) ∨ ((∀ m, m < 500 → inS m = true) ∧ v = .tuple #[iV 0, iV 7])
theorem Ni {x y : Int} (h1 : -9223372036854775808 ≤ x * y) (h2 : x * y < 9223372036854775808) : aj (.bin .mul .int) [iV x, iV y] = some (iV (x * y)) := by
 simp only [aj, eh, dK, if_true]
 rw [fi (by omega) (by omega)]
theorem I6 {w j : Nat} (hj : j < 64) : (2 ^ 64 - 1 ^^^ w).testBit j = !w.testBit j := by
 rw [Nat.testBit_xor, Nat.testBit_two_pow_sub_one, decide_eq_true hj]; cases w.testBit j <;> rfl
theorem OW {H : Heap} (hgl : GlobOk tC H) {p : Value} {O : Own} {ws : List Nat} {inS : Nat → Bool} (h : Pl p ws O) (hb : BitsOk ws inS) :
  Triple PP nc [p] H O fun v _ _ => Qm inS v := by
 obtain ⟨r0, s, A, rfl, rfl, hs⟩ := h
 have hl := hb.len
 have hlen : aj .len [s] = some (iV (8 : Nat)) := by have := hs.len; rwa [yg, List.length_map, hl] at this
 refine rx (vs := [.pointer (some ⟨r0, 0, none⟩)]) (by kernel_rfl) ⟨rfl, trivial⟩ ?_
 simp only [mV]
 refine ai (LK hs.one) rfl ⟨rfl, trivial⟩ fun H1 l1 => ?_
 refine ak (fun hb => by cases hb) (fun _ => ?_)
 refine aH rfl (aH rfl ?_)
 refine ⟨[s], rfl, ⟨hs.one, trivial⟩, fun _ => xJ, ?_⟩
 refine ab _ hlen ?_
 refine bh 8 (fun i H' O' => Heap.le H H' ∧ O' = (r0, .cells #[iV 500, s] aQ (0, 0)) :: A ∧ ∀ m, m < 64 * i → m < 500 → inS m = true) ⟨l1, rfl, fun m h => absurd h (by omega)⟩ ?_
 rintro i H' O' hi - ⟨hle, rfl, hall⟩
 refine ab _ (aN _ _) ?_
 refine ak (fun hlt => ?_) (fun hlt => ?_)
 ·have hi8 : i < 8 := by simp at hlt; omega
  have hil : i < ws.length := by omega
  have hwi := hb.lt _ (List.getElem_mem hil)
  have hgd : ws.getD i 0 = ws[i] := by rw [List.getD_eq_getElem?_getD, List.getElem?_eq_getElem hil]; rfl
  have hbit := hb.bit i
  rw [hgd] at hbit
  generalize hwd : ws[i] = w at hwi hbit hgd
  have hget : (yg ws)[i]? = some [uV w] := by rw [re hil, hwd]
  obtain ⟨a, ha, _⟩ := hs.idx (O := (r0, .cells #[iV 500, s] aQ (0, 0)) :: A) (fun p hp => List.mem_cons_of_mem _ hp) H' (k := .i64) hget
  have hrd : ∀ H', Reads H' ((r0, .cells #[iV 500, s] aQ (0, 0)) :: A) (.pointer (some a)) 1 [uV w] := fun H' => by
   obtain ⟨a2, h2, _, h3, _⟩ := hs.idx (O := (r0, .cells #[iV 500, s] aQ (0, 0)) :: A) (fun p hp => List.mem_cons_of_mem _ hp) H' (k := .i64) hget
   obtain rfl : a2 = a := by rw [h2] at ha; simpa using ha
   exact h3
  refine ab _ ha ?_
  refine ax (hrd H') rfl ⟨rfl, trivial⟩ ?_
  refine ab _ (Ni (by omega) (by omega)) ?_
  refine ab _ (DV hwi) ?_
  have hcl : 2 ^ 64 - 1 ^^^ w < 2 ^ 64 := Nat.xor_lt_two_pow (by omega) hwi
  have hcb := fun j (hj : j < 64) => I6 (w := w) hj
  generalize hcd : 2 ^ 64 - 1 ^^^ w = c at hcl hcb
  rcases Nat.eq_zero_or_pos c with h0 | h0
  ·subst h0
   have hfull : ∀ m, m < 64 * (i + 1) → m < 500 → inS m = true := fun m hm h5 => by
    rcases Nat.lt_or_ge m (64 * i) with h | h
    ·exact hall m h h5
    ·have := hcb (m - 64 * i) (by omega)
     rw [Nat.zero_testBit] at this
     have h2 := hbit (m - 64 * i) hi8 (by omega)
     rw [show 64 * i + (m - 64 * i) = m by omega] at h2
     rw [← h2]; simpa using this.symm
   refine ai (Qa _) rfl ⟨rfl, trivial⟩ fun H2 l2 => ?_
   refine ab _ (tP (by omega) (by omega)) ?_
   refine ab _ (tP (by omega) (by omega)) ?_
   refine ab _ (DV hwi) ?_
   rw [hcd]
   refine ab _ (Nc 0 0) ?_
   refine aH rfl (af (aH rfl (af (af ?_))))
   refine ⟨[iV 500], rfl, ⟨rfl, trivial⟩, fun _ => rW, ?_⟩
   refine af (af ?_)
   refine ab _ (og _ _) ?_
   refine af ?_
   refine ab _ (bA _ _) ?_
   refine ak (fun hb => by simp at hb) (fun _ => ?_)
   exact ab _ (aD (by omega)) (aS (by simp [Eqs]) hi8 ⟨Heap.le_trans hle l2, rfl, hfull⟩)
  ·obtain ⟨k, m', hk, e⟩ := Ij h0 hcl
   have hlow : ∀ m, m < 64 * i + k → m < 500 → inS m = true := fun m hm h5 => by
    rcases Nat.lt_or_ge m (64 * i) with h | h
    ·exact hall m h h5
    ·have := hcb (m - 64 * i) (by omega)
     rw [Nq e (by omega)] at this
     have h2 := hbit (m - 64 * i) hi8 (by omega)
     rw [show 64 * i + (m - 64 * i) = m by omega] at h2
     rw [← h2]; simpa using this.symm
   have hkf : inS (64 * i + k) = false := by
    have := hcb k hk
    rw [OG e] at this
    rw [← hbit k hi8 hk]; simpa using this.symm
   refine ai (QQ (hgl.le hle) _ hcl hk e) rfl ⟨rfl, trivial⟩ fun H2 l2 => ?_
   refine ab _ (tP (by omega) (by omega)) ?_
   refine ab _ (tP (by omega) (by omega)) ?_
   refine ab _ (DV hwi) ?_
   rw [hcd]
   refine ab _ (Nc c 0) ?_
   refine aH rfl (af (aH rfl (af (af ?_))))
   refine ⟨[iV 500], rfl, ⟨rfl, trivial⟩, fun _ => rW, ?_⟩
   refine af (af ?_)
   refine ab _ (og _ _) ?_
   refine af ?_
   refine ab _ (bA _ _) ?_
   refine ak (fun hy => ?_) (fun hn => ?_)
   ·have h5 : 64 * i + k < 500 := by simp at hy; omega
    refine aH rfl (aH rfl ?_)
    refine ⟨[s], rfl, ⟨hs.one, trivial⟩, fun _ => xJ, ?_⟩
    refine ab _ ha ?_
    refine ax (hrd H2) rfl ⟨rfl, trivial⟩ ?_
    have hw1 : w + 1 < 2 ^ 64 := by
     refine Nat.lt_of_le_of_ne (by omega) fun ew => ?_
     have hwm : w = 2 ^ 64 - 1 := by omega
     rw [hwm, Nat.xor_self] at hcd
     omega
    refine ab _ (Qk (b := 1) hw1) ?_
    refine ab _ (Qw hwi hw1) ?_
    refine ab _ ha ?_
    refine aH rfl ?_
    obtain ⟨a3, ha3, hst⟩ := hs.store (O := (r0, .cells #[iV 500, s] aQ (0, 0)) :: A) (O2 := [(r0, .cells #[iV 500, s] aQ (0, 0))]) (by simpa using List.perm_append_comm (l₁ := [(r0, Obj.cells #[iV 500, s] aQ (0, 0))]) (l₂ := A)) (k := .i64) hget
    obtain rfl : a3 = a := by rw [ha3] at ha; simpa using ha
    obtain ⟨O1, hs1, _⟩ := hst 0 [uV (w ||| (w + 1))] (Nat.le_refl _) ⟨rfl, trivial⟩
    refine ⟨_, hs1, ?_⟩
    refine ah (.inl ⟨64 * i + k, h5, hkf, fun j hj => hlow j hj (by omega), ?_⟩)
    show Value.tuple #[iV _, iV 0] = _
    congr 3
   ·have hne : (c != 0) = true := by simp; omega
    rw [hne, Bool.true_and] at hn
    have h5 : 500 ≤ 64 * i + k := by simp at hn; omega
    refine ab _ (aD (by omega)) (aS (by simp [Eqs]) hi8 ⟨Heap.le_trans hle l2, rfl, fun m _ hm5 => hlow m (by omega) hm5⟩)
 ·have hi8 : i = 8 := by simp at hlt; omega
  subst hi8
  exact ah (.inr ⟨fun m hm => hall m (by omega) hm, rfl⟩)
end Go.Proofs.YtdhobpmnkfmcfaaGreatDoor
