/- effect.Valid. -/
import Derived.Test.YtamgiojcbdbokaaGreatDoorM
namespace Go.Proofs.YtamgiojcbdbokaaGreatDoor
open Go Go.Sx
set_option maxRecDepth 100000
set_option maxHeartbeats 1000000
abbrev I (n : Int) : Value := .int .i64 n
theorem yE (x y : Int) : ah .min2 [iV x, iV y] = some (iV (min x y)) := by
 simp only [ah]; congr 2; omega
theorem yI (x y : Int) : ah .max2 [iV x, iV y] = some (iV (max x y)) := by
 simp only [ah]; congr 2; omega
def AI (l : List Int) (e : Eff) : Bool := ((l.contains e.target && e.n == 0) && e.m == 0) && e.colour == 0
def inR (n lo hi : Int) : Bool := decide (n ≥ lo) && max 0 (min n hi) == n
def Aa (l : List Int) (most : Int) (e : Eff) : Bool := inR e.n 1 most && AI l { e with n := 0 }
def zZ (l : List Int) (xh : Int) (e : Eff) : Bool := ((inR e.n 0 9 && inR e.m xh 9) && decide (e.n + e.m > 0)) && AI l { e with n := 0, m := 0 }
def AH (l : List Int) (most : Int) (e : Eff) : Bool := inR e.colour 0 3 && Aa l most { e with colour := 0 }
inductive Rl where
 | no
 | bare (l : List Int)
 | cnt (l : List Int) (m : Int)
 | par (l : List Int) (m : Int)
 | col (l : List Int) (m : Int)
def lz (c : Int) : Rl :=
 if c = 1 then .cnt [1, 2, 3, 4, 5] 99 else if c = 2 then .cnt [0, 4] 7 else if c = 3 ∨ c = 4 then .cnt [0, 4] 99
 else if c = 5 ∨ c = 6 ∨ c = 11 then .bare [1, 2, 3] else if c = 7 then .bare [6] else if c = 8 then .par [1, 2, 3, 0] 0
 else if c = 9 then .cnt [1, 2, 3, 0] 9 else if c = 10 then .par [0] 1 else if c = 12 then .col [0] 9 else .no
def Rl.fits : Rl → Eff → Bool
 | .no, _ => false
 | .bare l, e => AI l e
 | .cnt l m, e => Aa l m e
 | .par l m, e => zZ l m e
 | .col l m, e => AH l m e
def AL (e : Eff) : Bool := (lz e.code).fits e
def xk : List Int → Int → Int → Int
 | [], _, _ => -1
 | a :: r, x, i => if x == a then i else xk r x (i + 1)
theorem vK : ∀ (l : List Int) (x i : Int), 0 ≤ i → (decide (0 ≤ xk l x i) = l.contains x)
 | [], x, i, _ => by simp [xk]
 | a :: r, x, i, h => by
  simp only [xk, List.contains_cons]
  by_cases hx : x = a
  ·simp [hx, h]
  ·simp only [beq_iff_eq, hx, if_false]
   rw [vK r x (i + 1) (by omega)]
   simp [hx]
theorem eu {P : Program} {t ty e : TypeId} {size : Nat} (ha : tM P t e size = true) {ad : Addr} {rows news : List (List Value)} {x : Value} {H : Heap} {O : Go.Sx.Own} {frz : List BV} {K : List Value → List (List Value) → Heap → Go.Sx.Own → Prop}
  (hr : Sl H size (.slice (some ad) rows.length rows.length) rows) (hx : ∀ Hf, Heap.le H Hf → (∀ b ∈ frz, Hf b.r = some b.obj.2) → Sl Hf size x news)
  (hb : (rows.length + news.length) * hN P e ≤ 140737488355328) (h63 : rows.length + news.length < 2 ^ 63) (hk : ∀ v' H', Heap.le H H' → Sl H' size v' (rows ++ news) → K [v'] [] H' O) :
  cO (fun H1 O1 R => bE P ((PrimOp.bi .append #[t, t] ty).sem [.slice (some ad) rows.length rows.length, x]) H1 O1 R) false frz [] .one K H O := by
 intro hc
 have hf := dU hc
 have hl := Heap.le_insAll frz H
 refine ⟨H.insAll frz, [], O, _, Ghost.refl _ _, by simpa using uI (ty := ty) ha (hr.le hl) (hx _ hl hf) hb h63, ?_⟩
 rintro v' H' O' ⟨rfl, hle, hs⟩ _
 exact ⟨[v'], [], [], rfl, ⟨hs.one, trivial⟩, trivial, rfl, hk v' H' (Heap.le_trans hl hle) hs⟩
theorem eT {P : Program} {t : TypeId} {d : TypeDesc} (hu : P.underlying t = some d) (hni : ∀ m, d ≠ .interface m) {b : Bool} {args : List Value} {x : Value} (hx : (b = true ∧ x = .agg args.toArray) ∨ (b = false ∧ args = [x])) {frz : List BV} {H : Heap} {O : Go.Sx.Own}
  {K : List Value → List (List Value) → Heap → Go.Sx.Own → Prop} (hk : ∀ H', Heap.le H H' → (∀ b ∈ frz, H' b.r = some b.obj.2) → K [.iface t x] [] H' O) :
  cO (fun H1 O1 R => bE P ((PrimOp.mkIface t b).sem args) H1 O1 R) false frz [] .one K H O := by
 intro hc
 have hf := dU hc
 have hl := Heap.le_insAll frz H
 have hrun : ∀ w, ((PrimOp.mkIface t b).sem args).run P w = .ok (.value (.iface t x)) w := fun w => by
  rcases hx with ⟨rfl, rfl⟩ | ⟨rfl, rfl⟩
  ·simp only [PrimOp.sem, Instr.makeInterface, Sem.run_bind, ak hu, Result.andThen_ok]
   cases d <;> first | rfl | exact absurd rfl (hni _)
  ·simp only [PrimOp.sem, Instr.makeInterface, Sem.run_bind, ak hu, Result.andThen_ok]
   cases d <;> first | rfl | exact absurd rfl (hni _)
 refine ⟨H.insAll frz, [], O, fun v H' O' => v = .iface t x ∧ H' = H.insAll frz ∧ O' = [], Ghost.refl _ _, fun w F hm => ⟨_, w, H.insAll frz, [], hrun w, ⟨rfl, rfl, rfl⟩, Heap.le_refl _, by simpa using hm⟩, ?_⟩
 rintro v' H' O' ⟨rfl, rfl, rfl⟩ _
 exact ⟨[_], [], [], rfl, ⟨rfl, trivial⟩, trivial, rfl, hk _ hl hf⟩
theorem sK (r : Nat) (H : Heap) : Ret PP a8 [.slice (some ⟨r, 0, none⟩) 3 3] H (.slice (some ⟨r, 0, none⟩) 3 3) := by
 refine cd (vs := [.slice (some ⟨r, 0, none⟩) 3 3]) (by kernel_rfl) ⟨rfl, trivial⟩ ?_
 simp only [aZ]
 exact aa (iV 3) rfl (aa (iV 3) rfl (aa (.slice (some ⟨r, 0, none⟩) 3 3) rfl (af ⟨rfl, rfl⟩)))
def AB (H : Heap) : Rl → Value → Prop
 | .no, r => r = .nilIface
 | .bare l, r => ∃ s, r = .iface 228 s ∧ Sl H 1 s (ba l)
 | .cnt l m, r => ∃ s, r = .iface 231 (.agg #[s, iV m]) ∧ Sl H 1 s (ba l)
 | .par l m, r => ∃ s, r = .iface 233 (.agg #[s, iV m]) ∧ Sl H 1 s (ba l)
 | .col l m, r => ∃ s, r = .iface 235 (.agg #[s, iV m]) ∧ Sl H 1 s (ba l)
def OfQ (c : Int) (r : Value) (H' : Heap) (O' : Go.Sx.Own) : Prop := AB H' (lz c) r ∧ O' = []
theorem AM {H : Heap} {r : Nat} {T : TypeId} (h : H r = some (.cells [iV 1, iV 2, iV 3].toArray T (0, 0))) : Sl H 1 (.slice (some ⟨r, 0, none⟩) 3 3) (ba [1, 2, 3]) := Sl.block h ⟨rfl, rfl, rfl, trivial⟩ rfl (by decide)
theorem Bf {H : Heap} {r : Nat} {T : TypeId} {a b : Int} (h : H r = some (.cells [iV a, iV b].toArray T (0, 0))) : Sl H 1 (.slice (some ⟨r, 0, none⟩) 2 2) (ba [a, b]) := Sl.block h ⟨rfl, rfl, trivial⟩ rfl (by decide)
theorem Av {H : Heap} {r : Nat} {T : TypeId} {a : Int} (h : H r = some (.cells [iV a].toArray T (0, 0))) : Sl H 1 (.slice (some ⟨r, 0, none⟩) 1 1) (ba [a]) := Sl.block h ⟨rfl, trivial⟩ rfl (by decide)
def w9 : Option TypeDesc → Bool
 | none => false
 | some (.interface _) => false
 | some _ => true
theorem eK {o : Option TypeDesc} (h : w9 o = true) : ∃ d, o = some d ∧ ∀ m, d ≠ .interface m := by
 cases o with
 | none => cases h
 | some d => exact ⟨d, rfl, fun m e => by rw [e] at h; cases h⟩
theorem Bg : ∃ d, PP.underlying 228 = some d ∧ ∀ m, d ≠ .interface m := eK (by kernel_rfl)
theorem Bw : ∃ d, PP.underlying 231 = some d ∧ ∀ m, d ≠ .interface m := eK (by kernel_rfl)
theorem BF : ∃ d, PP.underlying 233 = some d ∧ ∀ m, d ≠ .interface m := eK (by kernel_rfl)
theorem BS : ∃ d, PP.underlying 235 = some d ∧ ∀ m, d ≠ .interface m := eK (by kernel_rfl)
theorem A2 {c : Int} {k : Bool} {r2 r0 : Nat} {H : Heap} (h1 : k = true → c = 5 ∨ c = 6 ∨ c = 11) (h2 : k = false → ¬ (c = 1 ∨ c = 2 ∨ c = 3 ∨ c = 4 ∨ c = 5 ∨ c = 6 ∨ c = 11)) : (dK (.bool k) r2 [iV c] r0).den PP (OfQ c) H [] := by
 simp only [dK]
 obtain ⟨d1, u1, n1⟩ := Bg
 obtain ⟨d3, u3, n3⟩ := BF
 obtain ⟨d4, u4, n4⟩ := BS
 refine aj (fun hk => ?_) (fun hk => ?_)
 ·refine eT u1 n1 (.inr ⟨rfl, rfl⟩) fun H1 l1 hf => ?_
  refine af ⟨?_, rfl⟩
  rw [lz, if_neg (by have := h1 hk; omega), if_neg (by have := h1 hk; omega), if_neg (by have := h1 hk; omega), if_pos (h1 hk)]
  exact ⟨_, rfl, AM (hf _ List.mem_cons_self)⟩
 have hn := h2 hk
 refine aa _ (av _ _) (aj (fun h => ?_) (fun h => ?_))
 ·have h : c = 7 := by simpa using h
  subst h
  refine ai fun r4 => ?_
  refine eT u1 n1 (.inr ⟨rfl, rfl⟩) fun H1 l1 hf => ?_
  exact af ⟨⟨_, rfl, Av (hf _ List.mem_cons_self)⟩, rfl⟩
 have n7 : c ≠ 7 := by simpa using h
 refine aa _ (av _ _) (aj (fun h => ?_) (fun h => ?_))
 ·have h : c = 8 := by simpa using h
  subst h
  refine nN _ (fun Hf _ _ => sK r2 Hf) rfl ⟨rfl, trivial⟩ fun H1 l1 hf => ?_
  refine ai fun r5 => ?_
  refine eu (ad := ⟨r2, 0, none⟩) (rows := ba [1, 2, 3]) (news := ba [0]) (size := 1) (e := 108) (by kernel_rfl) (AM (hf _ List.mem_cons_self)) (fun Hf _ hf2 => Av (hf2 _ List.mem_cons_self)) (by rw [show hN PP 108 = 8 by kernel_rfl]; decide) (by decide) fun v' H2 l2 hs => ?_
  exact af ⟨⟨_, rfl, hs⟩, rfl⟩
 have n8 : c ≠ 8 := by simpa using h
 refine aa _ (av _ _) (aj (fun h => ?_) (fun h => ?_))
 ·have h : c = 9 := by simpa using h
  subst h
  refine nN _ (fun Hf _ _ => sK r2 Hf) rfl ⟨rfl, trivial⟩ fun H1 l1 hf => ?_
  refine ai fun r5 => ?_
  refine eu (ad := ⟨r2, 0, none⟩) (rows := ba [1, 2, 3]) (news := ba [0]) (size := 1) (e := 108) (by kernel_rfl) (AM (hf _ List.mem_cons_self)) (fun Hf _ hf2 => Av (hf2 _ List.mem_cons_self)) (by rw [show hN PP 108 = 8 by kernel_rfl]; decide) (by decide) fun v' H2 l2 hs => ?_
  exact af ⟨⟨_, rfl, hs⟩, rfl⟩
 have n9 : c ≠ 9 := by simpa using h
 refine aa _ (av _ _) (aj (fun h => ?_) (fun h => ?_))
 ·have h : c = 10 := by simpa using h
  subst h
  refine eT u3 n3 (.inl ⟨rfl, rfl⟩) fun H1 l1 hf => ?_
  exact af ⟨⟨_, rfl, Av (hf _ List.mem_cons_self)⟩, rfl⟩
 have n10 : c ≠ 10 := by simpa using h
 refine aa _ (av _ _) (aj (fun h => ?_) (fun h => ?_))
 ·have h : c = 12 := by simpa using h
  subst h
  refine eT u4 n4 (.inl ⟨rfl, rfl⟩) fun H1 l1 hf => ?_
  exact af ⟨⟨_, rfl, Av (hf _ List.mem_cons_self)⟩, rfl⟩
 have n12 : c ≠ 12 := by simpa using h
 refine af ⟨?_, rfl⟩
 rw [lz, if_neg (by omega), if_neg (by omega), if_neg (by omega), if_neg (by omega), if_neg n7, if_neg n8, if_neg n9, if_neg n10, if_neg n12]
 rfl
theorem Bv {c : Int} {k : Bool} {r1 r2 r0 : Nat} {H : Heap} (h1 : k = true → c = 3 ∨ c = 4) (h2 : k = false → ¬ (c = 1 ∨ c = 2 ∨ c = 3 ∨ c = 4)) : (eQ (.bool k) r1 [iV c] r2 r0).den PP (OfQ c) H [] := by
 simp only [eQ]
 obtain ⟨d2, u2, n2⟩ := Bw
 refine aj (fun hk => ?_) (fun hk => ?_)
 ·refine eT u2 n2 (.inl ⟨rfl, rfl⟩) fun H1 l1 hf => ?_
  refine af ⟨?_, rfl⟩
  rw [lz, if_neg (by have := h1 hk; omega), if_neg (by have := h1 hk; omega), if_pos (h1 hk)]
  exact ⟨_, rfl, Bf (hf _ List.mem_cons_self)⟩
 have hn := h2 hk
 refine aa _ (av _ _) (aj (fun h => ?_) (fun h => ?_))
 ·have h' : c = 5 := by simpa using h
  exact A2 (fun _ => .inl h') (fun e => by rw [h] at e; cases e)
 have n5 : c ≠ 5 := by simpa using h
 refine aa _ (av _ _) (aj (fun h => ?_) (fun h => ?_))
 ·have h' : c = 6 := by simpa using h
  exact A2 (fun _ => .inr (.inl h')) (fun e => by rw [h] at e; cases e)
 have n6 : c ≠ 6 := by simpa using h
 refine aa _ (av _ _) ?_
 exact A2 (fun e => .inr (.inr (by simpa using e))) (fun e => by have : c ≠ 11 := (by simpa using e); omega)
theorem BU (c : Int) (H : Heap) : Triple PP od [iV c] H [] (OfQ c) := by
 refine pr (vs := [iV c]) (by kernel_rfl) ⟨rfl, trivial⟩ ?_
 simp only [nU]
 obtain ⟨d2, u2, n2⟩ := Bw
 refine ai fun r0 => ai fun r1 => ai fun r2 => ?_
 refine aa _ (av _ _) (aj (fun h => ?_) (fun h => ?_))
 ·have h : c = 1 := by simpa using h
  subst h
  refine nN _ (fun Hf _ _ => sK r2 Hf) rfl ⟨rfl, trivial⟩ fun H1 l1 hf => ?_
  refine ai fun r5 => ?_
  refine eu (ad := ⟨r2, 0, none⟩) (rows := ba [1, 2, 3]) (news := ba [4, 5]) (size := 1) (e := 108) (by kernel_rfl) (AM (hf _ List.mem_cons_self)) (fun Hf _ hf2 => Bf (hf2 _ List.mem_cons_self)) (by rw [show hN PP 108 = 8 by kernel_rfl]; decide) (by decide) fun v' H2 l2 hs => ?_
  exact af ⟨⟨_, rfl, hs⟩, rfl⟩
 have n1 : c ≠ 1 := by simpa using h
 refine aa _ (av _ _) (aj (fun h => ?_) (fun h => ?_))
 ·have h : c = 2 := by simpa using h
  subst h
  refine eT u2 n2 (.inl ⟨rfl, rfl⟩) fun H1 l1 hf => ?_
  exact af ⟨⟨_, rfl, Bf (hf _ List.mem_cons_self)⟩, rfl⟩
 have n2' : c ≠ 2 := by simpa using h
 refine aa _ (av _ _) (aj (fun h => ?_) (fun h => ?_))
 ·have h' : c = 3 := by simpa using h
  exact Bv (fun _ => .inl h') (fun e => by rw [h] at e; cases e)
 have n3 : c ≠ 3 := by simpa using h
 refine aa _ (av _ _) ?_
 exact Bv (fun e => .inr (by simpa using e)) (fun e => by have : c ≠ 4 := (by simpa using e); omega)
theorem xu {H : Heap} {O : Go.Sx.Own} {v : Value} {l : List Int} (h : RSl H O 1 v (l.map fun n => [I n])) (x : Int) : RetO PP aV [v, I x] H O (I (xk l x 0)) := by
 refine bV (vs := [v, I x]) (by kernel_rfl) ⟨h.one, rfl, trivial⟩ ?_
 simp only [aU]
 refine aa _ h.len ?_
 refine bS l.length (fun i H' O' => O' = O ∧ Heap.le H H' ∧ xk l x 0 = xk (l.drop i) x i) ⟨rfl, Heap.le_refl H, by simp⟩ ?_
 rintro i H' O' hi - ⟨rfl, hle, hor⟩
 refine aa _ (bm _ _) (aj (fun hb => ?_) (fun hb => ?_))
 ·have hlt : i < l.length := by simpa using hb
  obtain ⟨a, h1, h2, _, h3, h4⟩ := (h.le hle).idx .i64 i [I l[i]] (by simp [hlt])
  refine aa _ h1 (ao h2 h3 h4 (aa _ (av _ _) (aj (fun hb => ?_) (fun hb => ?_))))
  ·refine af ⟨?_, rfl⟩
   rw [hor, List.drop_eq_getElem_cons hlt, xk, if_pos hb]; rfl
  ·refine aa _ (aW (by have := h.lenB; simp at this; omega)) (bp (by simp [Eqs, E]) hlt ⟨rfl, hle, ?_⟩)
   rw [hor, List.drop_eq_getElem_cons hlt, xk, if_neg (by rw [hb]; simp)]; rfl
 ·have hge : l.length ≤ i := by simpa using hb
  refine af ⟨?_, rfl⟩
  rw [hor, List.drop_of_length_le hge]; rfl
theorem sG {H : Heap} {O : Go.Sx.Own} {v : Value} {l : List Int} (h : RSl H O 1 v (l.map fun n => [I n])) (x : Int) : RetO PP aH [v, I x] H O (.bool (l.contains x)) := by
 refine bK (vs := [v, I x]) (by kernel_rfl) ⟨h.one, rfl, trivial⟩ ?_
 simp only [aG]
 refine al (xu h x) rfl ⟨rfl, trivial⟩ fun H1 _ => aa _ (kA _ _) (af ⟨?_, rfl⟩)
 rw [← vK l x 0 (by omega)]
theorem zn {H : Heap} {O : Go.Sx.Own} (p m : Int) : RetO PP oc [iV p, iV m] H O (iV (max 0 (min p m))) := by
 refine po (vs := [iV p, iV m]) (by kernel_rfl) ⟨rfl, rfl, trivial⟩ ?_
 simp only [nT]
 exact aa _ (yE _ _) (aa _ (yI _ _) (af ⟨rfl, rfl⟩))
theorem kG (n lo hi : Int) (H : Heap) (O : Go.Sx.Own) : RetO PP jn [iV n, iV lo, iV hi] H O (.bool (inR n lo hi)) := by
 refine kZ (vs := [iV n, iV lo, iV hi]) (by kernel_rfl) ⟨rfl, rfl, rfl, trivial⟩ ?_
 simp only [jk]
 refine aa _ (kA _ _) (aj (fun h => ?_) (fun h => ?_))
 ·refine al (zn n hi) rfl ⟨rfl, trivial⟩ fun H1 _ => aa _ (av _ _) (af ⟨?_, rfl⟩)
  rw [inR, h, Bool.true_and]
 ·refine af ⟨?_, rfl⟩
  rw [inR, h, Bool.false_and]
theorem lr {H : Heap} {O : Go.Sx.Own} {s : Value} {l : List Int} (h : RSl H O 1 s (ba l)) (e : Eff) : RetO PP dM [s, .agg e.row.toArray] H O (.bool (AI l e)) := by
 refine jD (vs := s :: e.row) (by kernel_rfl) ⟨h.one, jd e⟩ ?_
 simp only [fF]
 refine ai fun r0 => ?_
 refine ab ?_
 refine al (sG h e.target) rfl ⟨rfl, trivial⟩ fun H1 _ => ?_
 refine ab (ae (ae ?_))
 refine aa _ (av _ _) ?_
 refine ae ?_
 refine aa _ (aJ _ _) ?_
 refine ab (ae (ae ?_))
 refine aa _ (av _ _) ?_
 refine ae ?_
 refine aa _ (aJ _ _) ?_
 refine ab (ae (ae ?_))
 refine aa _ (av _ _) ?_
 refine ae ?_
 refine aa _ (aJ _ _) ?_
 exact af ⟨rfl, rfl⟩
theorem rA {H : Heap} {O : Go.Sx.Own} {s : Value} {l : List Int} (h : RSl H O 1 s (ba l)) (m : Int) (e : Eff) : RetO PP cK [.agg #[s, iV m], .agg e.row.toArray] H O (.bool (Aa l m e)) := by
 refine gz (vs := s :: iV m :: e.row) (by kernel_rfl) ⟨h.one, rfl, jd e⟩ ?_
 simp only [ei]
 refine ai fun r0 => ai fun r1 => ?_
 refine ab (ab (ab ?_))
 refine al (kG e.n 1 m _ _) rfl ⟨rfl, trivial⟩ fun H1 l1 => aj (fun hb => ?_) (fun hb => ?_)
 ·refine ab (ab ?_)
  refine al (lr (h.le l1) { e with n := 0 }) rfl ⟨rfl, trivial⟩ fun H2 _ => af ⟨?_, rfl⟩
  rw [Aa, hb, Bool.true_and]; rfl
 ·refine af ⟨?_, rfl⟩
  rw [Aa, hb, Bool.false_and]
theorem wj {H : Heap} {O : Go.Sx.Own} {s : Value} {l : List Int} (h : RSl H O 1 s (ba l)) {m : Int} (hm : 0 ≤ m) (e : Eff) : RetO PP cZ [.agg #[s, iV m], .agg e.row.toArray] H O (.bool (zZ l m e)) := by
 refine iy (vs := s :: iV m :: e.row) (by kernel_rfl) ⟨h.one, rfl, jd e⟩ ?_
 simp only [eD]
 refine ai fun r0 => ai fun r1 => ?_
 refine ab (ab (ab (ab ?_)))
 refine al (kG e.n 0 9 _ _) rfl ⟨rfl, trivial⟩ fun H1 l1 => aj (fun hb => ?_) (fun hb => ?_)
 rotate_left
 ·refine af ⟨?_, rfl⟩
  rw [zZ, hb]; rfl
 refine ab ?_
 refine al (kG e.m m 9 _ _) rfl ⟨rfl, trivial⟩ fun H2 l2 => ?_
 refine ae (ae ?_)
 have hw : ∃ z, ah (.bin .add .int) [iV e.n, iV e.m] = some (iV z) ∧ (inR e.m m 9 = true → z = e.n + e.m) := by
  refine ⟨IntKind.i64.wrap (e.n + e.m), rfl, fun hm9 => ?_⟩
  simp only [inR, Bool.and_eq_true, decide_eq_true_eq, beq_iff_eq] at hb hm9
  exact mJ (by omega) (by omega)
 obtain ⟨z, hz, hze⟩ := hw
 refine aa _ hz ?_
 refine ae ?_
 refine aa _ (ge _ _) ?_
 refine ae ?_
 refine aa _ (aJ _ _) (aj (fun hc => ?_) (fun hc => ?_))
 ·rw [Bool.and_eq_true] at hc
  refine ab (ab ?_)
  refine al (lr (h.le (Heap.le_trans l1 l2)) { e with n := 0, m := 0 }) rfl ⟨rfl, trivial⟩ fun H3 _ => af ⟨?_, rfl⟩
  rw [zZ, hb, hc.1, ← hze hc.1, hc.2]; rfl
 ·refine af ⟨?_, rfl⟩
  rw [zZ, hb, Bool.true_and]
  by_cases hm9 : inR e.m m 9 = true
  ·rw [hm9, Bool.true_and] at hc
   rw [hm9, ← hze hm9, Bool.true_and, hc]; rfl
  ·rw [show inR e.m m 9 = false by simpa using hm9]; rfl
theorem wk {H : Heap} {O : Go.Sx.Own} {s : Value} {l : List Int} (h : RSl H O 1 s (ba l)) (m : Int) (e : Eff) : RetO PP cn [.agg #[s, iV m], .agg e.row.toArray] H O (.bool (AH l m e)) := by
 refine fU (vs := s :: iV m :: e.row) (by kernel_rfl) ⟨h.one, rfl, jd e⟩ ?_
 simp only [dO]
 refine ai fun r0 => ai fun r1 => ?_
 refine ab (ab ?_)
 refine al (kG e.colour 0 3 _ _) rfl ⟨rfl, trivial⟩ fun H1 l1 => aj (fun hb => ?_) (fun hb => ?_)
 ·refine ab (ab ?_)
  refine al (rA (h.le l1) m { e with colour := 0 }) rfl ⟨rfl, trivial⟩ fun H2 _ => af ⟨?_, rfl⟩
  rw [AH, hb, Bool.true_and]; rfl
 ·refine af ⟨?_, rfl⟩
  rw [AH, hb, Bool.false_and]
theorem tj {t : TypeId} {v : Value} : ∀ w, ((PrimOp.eqv .neq 195 true).sem [.iface t v, .nilIface]).run PP w = .ok (.value (.bool true)) w := fun w => by kernel_rfl
theorem yC : ∀ w, ((PrimOp.eqv .neq 195 true).sem [.nilIface, .nilIface]).run PP w = .ok (.value (.bool false)) w := fun w => by kernel_rfl
theorem xe (v : Value) : mb PP "zeitnot/effect.fits" (.iface 228 v) dM v := ⟨_, _, rfl, fun w => by kernel_rfl⟩
theorem yH (v : Value) : mb PP "zeitnot/effect.fits" (.iface 231 v) cK v := ⟨_, _, rfl, fun w => by kernel_rfl⟩
theorem yF (v : Value) : mb PP "zeitnot/effect.fits" (.iface 233 v) cZ v := ⟨_, _, rfl, fun w => by kernel_rfl⟩
theorem yG (v : Value) : mb PP "zeitnot/effect.fits" (.iface 235 v) cn v := ⟨_, _, rfl, fun w => by kernel_rfl⟩
theorem vc {H : Heap} {R : Rl} {r : Value} (h : AB H R r) : r.oneCell' = true := by
 cases R with
 | no => rw [show r = .nilIface from h]; rfl
 | bare l => obtain ⟨s, rfl, _⟩ := h; rfl
 | cnt l m => obtain ⟨s, rfl, _⟩ := h; rfl
 | par l m => obtain ⟨s, rfl, _⟩ := h; rfl
 | col l m => obtain ⟨s, rfl, _⟩ := h; rfl
theorem yy {c : Int} {l : List Int} {m : Int} (h : lz c = .par l m) : 0 ≤ m := by
 rw [lz] at h
 repeat' (split at h)
 all_goals first | (injection h with h1 h2; omega) | cases h
theorem uD (e : Eff) (H : Heap) : RetO PP jP [.agg e.row.toArray] H [] (.bool (AL e)) := by
 refine mn (vs := e.row) (by kernel_rfl) (jd e) ?_
 simp only [jL]
 refine ai fun r0 => ?_
 refine ab ?_
 refine bA (BU e.code H) ?_
 rintro r H1 _ ⟨hr, rfl⟩ l1
 refine ⟨[r], rfl, ⟨vc hr, trivial⟩, ?_⟩
 have hpp := @yy e.code
 rw [AL]
 generalize lz e.code = R at hr hpp
 cases R with
 | no =>
  rw [show r = .nilIface from hr]
  refine ⟨_, fun _ => yC, rfl, aj (fun hd => by cases hd) (fun _ => ?_)⟩
  exact af ⟨rfl, rfl⟩
 | bare l =>
  obtain ⟨s, rfl, hs⟩ := hr
  refine ⟨_, fun _ => tj, rfl, aj (fun _ => ?_) (fun hd => by cases hd)⟩
  refine ab ?_
  exact kF (xe s) (fJ ib (by decide)) (lr (hs.rsl []) e) rfl ⟨rfl, trivial⟩ fun H2 l2 => af ⟨rfl, rfl⟩
 | cnt l m =>
  obtain ⟨s, rfl, hs⟩ := hr
  refine ⟨_, fun _ => tj, rfl, aj (fun _ => ?_) (fun hd => by cases hd)⟩
  refine ab ?_
  exact kF (yH _) (fJ ib (by decide)) (rA (hs.rsl []) m e) rfl ⟨rfl, trivial⟩ fun H2 l2 => af ⟨rfl, rfl⟩
 | par l m =>
  obtain ⟨s, rfl, hs⟩ := hr
  refine ⟨_, fun _ => tj, rfl, aj (fun _ => ?_) (fun hd => by cases hd)⟩
  refine ab ?_
  exact kF (yF _) (fJ ib (by decide)) (wj (hs.rsl []) (hpp rfl) e) rfl ⟨rfl, trivial⟩ fun H2 l2 => af ⟨rfl, rfl⟩
 | col l m =>
  obtain ⟨s, rfl, hs⟩ := hr
  refine ⟨_, fun _ => tj, rfl, aj (fun _ => ?_) (fun hd => by cases hd)⟩
  refine ab ?_
  exact kF (yG _) (fJ ib (by decide)) (wk (hs.rsl []) m e) rfl ⟨rfl, trivial⟩ fun H2 l2 => af ⟨rfl, rfl⟩
end Go.Proofs.YtamgiojcbdbokaaGreatDoor
