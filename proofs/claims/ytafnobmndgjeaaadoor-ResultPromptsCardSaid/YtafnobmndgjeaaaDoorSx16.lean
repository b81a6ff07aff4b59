/- Unordered neighbours may be turned. -/
import Derived.Test.YtafnobmndgjeaaaDoorSx15
namespace Go.Sx
open Go

theorem SS.set_comm {s : SS} {a b : Option Nat} (h : ∀ d, a = some d → b ≠ some d) (x y : SV) : (s.set a x).set b y = (s.set b y).set a x := by
  cases a with
  | none => rfl
  | some i =>
    cases b with
    | none => rfl
    | some j =>
      have hij : i ≠ j := fun e => h i rfl (by rw [e])
      simp only [SS.set, SS.mk.injEq, true_and, and_true]
      funext t
      by_cases e : t = i
      · subst e; simp [hij]
      · simp [e]
theorem SS.set_setBox {s : SS} {a : Option Nat} {n : Nat} {b : Option Bx} {x : SV} : (s.set a x).setBox n b = (s.setBox n b).set a x := by
  cases a <;> rfl
theorem SS.setBox_comm {s : SS} {n m : Nat} (h : n ≠ m) (b c : Option Bx) : (s.setBox n b).setBox m c = (s.setBox m c).setBox n b := by
  simp only [SS.setBox, SS.mk.injEq, true_and, and_true]
  funext k
  by_cases e : k = n
  · subst e; simp [h]
  · simp [e]
theorem SS.set_tmps {s : SS} {a : Option Nat} {x : SV} {t : Nat} (h : ∀ d, a = some d → t ≠ d) : (s.set a x).tmps t = s.tmps t := by
  cases a with
  | none => rfl
  | some d => simp [SS.set, h d rfl]
theorem SS.set_mem {s : SS} {a : Option Nat} {x : SV} : (s.set a x).mem = s.mem := by cases a <;> rfl
theorem SS.set_sz {s : SS} {a : Option Nat} {x : SV} : (s.set a x).sz = s.sz := by cases a <;> rfl
theorem SS.setBox_mem {s : SS} {n m : Nat} {b : Option Bx} (h : m ≠ n) : (s.setBox n b).mem m = s.mem m := by simp [SS.setBox, h]

theorem delBoxes_set : ∀ {l : List Nat} {s : SS} {a : Option Nat} {x : SV}, delBoxes l (s.set a x) = (delBoxes l s).set a x
  | [], _, _, _ => rfl
  | n :: r, s, a, x => by rw [delBoxes, delBoxes, SS.set_setBox, delBoxes_set]
theorem putB_set : ∀ {l : List (Nat × Bx)} {css : List (List Value)} {s : SS} {a : Option Nat} {x : SV} {i : Nat}, putB i l css (s.set a x) = (putB i l css s).set a x
  | [], _, _, _, _, _ => rfl
  | (n, b) :: r, css, s, a, x, i => by rw [putB, putB, SS.set_setBox, putB_set]
theorem delBoxes_setBox : ∀ {l : List Nat} {s : SS} {n : Nat} {b : Option Bx}, n ∉ l → delBoxes l (s.setBox n b) = (delBoxes l s).setBox n b
  | [], _, _, _, _ => rfl
  | m :: r, s, n, b, h => by
    simp only [List.mem_cons, not_or] at h
    rw [delBoxes, delBoxes, SS.setBox_comm h.1, delBoxes_setBox h.2]
theorem putB_setBox : ∀ {l : List (Nat × Bx)} {css : List (List Value)} {s : SS} {n : Nat} {b : Option Bx} {i : Nat}, n ∉ l.map (·.1) → putB i l css (s.setBox n b) = (putB i l css s).setBox n b
  | [], _, _, _, _, _, _ => rfl
  | (m, b') :: r, css, s, n, b, i, h => by
    simp only [List.map_cons, List.mem_cons, not_or] at h
    rw [putB, putB, SS.setBox_comm h.1, putB_setBox h.2]
theorem putB_mem : ∀ {l : List (Nat × Bx)} {css : List (List Value)} {s : SS} {n i : Nat}, n ∉ l.map (·.1) → (putB i l css s).mem n = s.mem n
  | [], _, _, _, _, _ => rfl
  | (m, b') :: r, css, s, n, i, h => by
    simp only [List.map_cons, List.mem_cons, not_or] at h
    rw [putB, putB_mem h.2, SS.setBox_mem h.1]
section
variable {dst : Option Tmp} {frz own : List (Nat × Bx)} {sv : List Value → SV} {s : SS} {vs : List Value} {css : List (List Value)}
theorem hvUpd_set {a : Option Nat} {x : SV} (h : ∀ d, a = some d → dst ≠ some d) : hvUpd dst frz own sv (s.set a x) vs css = (hvUpd dst frz own sv s vs css).set a x := by
  unfold hvUpd
  rw [delBoxes_set, putB_set, SS.set_comm h]
theorem hvUpd_setBox {n : Nat} {b : Option Bx} (h : n ∉ (frz ++ own).map (·.1)) : hvUpd dst frz own sv (s.setBox n b) vs css = (hvUpd dst frz own sv s vs css).setBox n b := by
  unfold hvUpd
  have h' : n ∉ own.map (·.1) := fun hn => h (by rw [List.map_append]; exact List.mem_append.2 (.inr hn))
  rw [delBoxes_setBox h, putB_setBox h', SS.set_setBox]
theorem hvUpd_mem {n : Nat} (h : n ∉ (frz ++ own).map (·.1)) : (hvUpd dst frz own sv s vs css).mem n = s.mem n := by
  unfold hvUpd
  have h' : n ∉ own.map (·.1) := fun hn => h (by rw [List.map_append]; exact List.mem_append.2 (.inr hn))
  rw [SS.set_mem, putB_mem h', delBoxes_mem, if_neg h]
theorem hvUpd_tmps {t : Nat} (h : ∀ d, dst = some d → t ≠ d) : (hvUpd dst frz own sv s vs css).tmps t = s.tmps t := by
  unfold hvUpd
  rw [SS.set_tmps h, putB_tmps.1, delBoxes_tmps.1]
theorem hvUpd_sz : (hvUpd dst frz own sv s vs css).sz = s.sz := by
  unfold hvUpd
  rw [SS.set_sz, putB_tmps.2, delBoxes_tmps.2]
end

theorem disj_spec {a b : List Nat} (h : disj a b = true) {n : Nat} (ha : n ∈ a) : n ∉ b := by
  unfold disj at h
  rw [List.all_eq_true] at h
  simpa using h n ha
theorem disj_spec' {a b : List Nat} (h : disj a b = true) {n : Nat} (hb : n ∈ b) : n ∉ a := fun ha => disj_spec h ha hb

theorem NF.run_mono {P : Program} {d : Bool} {dst : Option Tmp} {x : NF} {s : SS} {K K' : SS → Heap → Own → Prop} {H : Heap} {O : Own} (hk : ∀ s H O, K s H O → K' s H O) (h : x.run P d dst s K H O) :
    x.run P d dst s K' H O := by
  cases x with
  | fl cs k X => obtain ⟨h1, vs, h2, h3⟩ := h; exact ⟨h1, vs, h2, hk _ _ _ h3⟩
  | box cs n T cells val => exact ⟨h.1, fun r => hk _ _ _ (h.2 r)⟩
  | stb cs n b => exact ⟨h.1, hk _ _ _ h.2⟩
  | hv cs k frz own shp post sv => exact ⟨h.1, CallD_mono (fun _ _ _ x => x) (fun _ _ _ _ x => ⟨x.1, hk _ _ _ x.2⟩) h.2⟩
  | st cs p vs => obtain ⟨h1, O', h2, h3⟩ := h; exact ⟨h1, O', h2, hk _ _ _ h3⟩

/-- A choice that is no choice. -/
theorem FK.pre_unique {P : Program} {k : FK} {H : Heap} {O : Own} {vs us : List Value} (hc : k.ch = false) (h : k.pre P H O vs) (h' : k.pre P H O us) : vs = us := by
  cases k with
  | sil => rw [h, h']
  | pure gd op args =>
    have hg : gd = [] := by simpa [FK.ch] using hc
    subst hg
    obtain ⟨v, rfl, h1, _⟩ := h
    obtain ⟨u, rfl, h2, _⟩ := h'
    have := (h1 trivial).symm.trans (h2 trivial)
    simp only [Option.some.injEq] at this; rw [this]
  | raw gd op args =>
    have hg : gd = [] := by simpa [FK.ch] using hc
    subst hg
    obtain ⟨v, rfl, h1, _⟩ := h
    obtain ⟨u, rfl, h2, _⟩ := h'
    have := (h1 trivial default).symm.trans (h2 trivial default)
    simp only [Result.ok.injEq, Next.value.injEq, and_true] at this; rw [this]
  | load gd p m => simp [FK.ch] at hc
  | split c =>
    obtain ⟨b, h1, rfl⟩ := h
    obtain ⟨b', h2, rfl⟩ := h'
    rw [h1] at h2; simp only [Value.bool.injEq] at h2; rw [h2]
  | isplit c n =>
    obtain ⟨kd, i, h1, _, _, rfl⟩ := h
    obtain ⟨kd', i', h2, _, _, rfl⟩ := h'
    rw [h1] at h2; simp only [Value.int.injEq] at h2; rw [h2.2]
theorem FK.pre_any {P : Program} {k : FK} {H H' : Heap} {O O' : Own} {vs : List Value} (hl : k.isLoad = false) (h : k.pre P H O vs) : k.pre P H' O' vs := by
  cases k <;> first | exact h | simp [FK.isLoad] at hl
theorem Reads.mono {H H' : Heap} {O O' : Own} {p : Value} {m : Nat} {vs : List Value} (hle : Heap.le H H') (hs : ∀ x, x ∈ O → x ∈ O') (h : Reads H O p m vs) : Reads H' O' p m vs := by
  rcases h with h | ⟨a, cs, T, h1, h2, h3, h4, h5⟩
  · exact .inl (hle.read h)
  · exact .inr ⟨a, cs, T, h1, h2, hs _ h3, h4, h5⟩
theorem FK.pre_mono {P : Program} {k : FK} {H H' : Heap} {O O' : Own} {vs : List Value} (hle : Heap.le H H') (hs : ∀ x, x ∈ O → x ∈ O') (h : k.pre P H O vs) : k.pre P H' O' vs := by
  cases k with
  | load gd p m => exact ⟨h.1, h.2.1, fun hg => (h.2.2 hg).mono hle hs⟩
  | _ => exact h

/-- Two states that differ in one slot and in some boxes. -/
structure Near (d : Option Tmp) (W : List Nat) (s s' : SS) : Prop where
  sz : s'.sz = s.sz
  tm : ∀ t, (∀ e, d = some e → t ≠ e) → s'.tmps t = s.tmps t
  mm : ∀ n, n ∉ W → s'.mem n = s.mem n
theorem Near.symm {d : Option Tmp} {W : List Nat} {s s' : SS} (h : Near d W s s') : Near d W s' s :=
  ⟨h.sz.symm, fun t ht => (h.tm t ht).symm, fun n hn => (h.mm n hn).symm⟩
theorem near_set (d : Option Tmp) (W : List Nat) (s : SS) (x : SV) : Near d W s (s.set d x) :=
  ⟨SS.set_sz, fun _ ht => SS.set_tmps ht, fun _ _ => by rw [SS.set_mem]⟩
theorem near_box (d : Option Tmp) (s : SS) (n : Nat) (b : Option Bx) (x : SV) : Near d [n] s ((s.setBox n b).set d x) :=
  ⟨SS.set_sz, fun _ ht => SS.set_tmps ht, fun m hm => by rw [SS.set_mem, SS.setBox_mem (by simpa using hm)]⟩
theorem near_stb (d : Option Tmp) (s : SS) (n : Nat) (b : Option Bx) : Near d [n] s (s.setBox n b) :=
  ⟨rfl, fun _ _ => rfl, fun m hm => by rw [SS.setBox_mem (by simpa using hm)]⟩
theorem near_hv (d : Option Tmp) (frz own : List (Nat × Bx)) (sv : List Value → SV) (s : SS) (vs : List Value) (css : List (List Value)) : Near d ((frz ++ own).map (·.1)) s (hvUpd d frz own sv s vs css) :=
  ⟨hvUpd_sz, fun _ ht => hvUpd_tmps ht, fun _ hn => hvUpd_mem hn⟩
theorem near_refl (d : Option Tmp) (W : List Nat) (s : SS) : Near d W s s := ⟨rfl, fun _ _ => rfl, fun _ _ => rfl⟩

def Cong (N : SS → Option (NF × FP)) (l : List Tmp) : Prop :=
  ∀ s s' y fy, N s = some (y, fy) → s'.sz = s.sz → (∀ t ∈ l, s'.tmps t = s.tmps t) → (∀ n ∈ fy.reads, s'.mem n = s.mem n) → N s' = some (y, fy)
theorem Cong.near {N : SS → Option (NF × FP)} {l : List Tmp} (h : Cong N l) {d : Option Tmp} {W : List Nat} {s s' : SS} {y : NF} {fy : FP} (hn : Near d W s s') (hd : ∀ e, d = some e → e ∉ l)
    (hW : ∀ n ∈ fy.reads, n ∉ W) (hs : N s = some (y, fy)) : N s' = some (y, fy) :=
  h s s' y fy hs hn.sz (fun t ht => hn.tm t fun e he het => hd e he (het ▸ ht)) (fun n hr => hn.mm n (hW n hr))

def NF.isHv : NF → Bool
  | .hv .. => true
  | _ => false

theorem swap {P : Program} {da db : Option Tmp} {la lb : List Tmp} {Na Nb : SS → Option (NF × FP)} (Ca : Cong Na la) (Cb : Cong Nb lb)
    (h1 : ∀ d, da = some d → d ∉ lb) (h2 : ∀ d, da = some d → db ≠ some d) (h3 : ∀ d, db = some d → d ∉ la)
    {s : SS} {xa : NF} {fa : FP} (ha : Na s = some (xa, fa)) {C : NF → FP → Prop} {K : SS → Heap → Own → Prop} {H : Heap} {O : Own}
    (hst : xa.isHv = true → ∃ y fy, Nb s = some (y, fy) ∧ early xa fa y fy = true ∧ C y fy)
    (hb : xa.run P true da s (fun s' H' O' => ∃ y fy, Nb s' = some (y, fy) ∧ early xa fa y fy = true ∧ C y fy ∧ y.run P true db s' K H' O') H O) :
    ∃ y fy, Nb s = some (y, fy) ∧ early xa fa y fy = true ∧ C y fy ∧
      y.run P true db s (fun s' H' O' => Na s' = some (xa, fa) ∧ Near db y.writes s s' ∧ xa.run P true da s' K H' O') H O := by
  have back : ∀ {s' : SS} {y : NF} {fy : FP}, Near da xa.writes s s' → Nb s' = some (y, fy) → early xa fa y fy = true → Nb s = some (y, fy) := by
    intro s' y fy hn hy he
    simp only [early, Bool.and_eq_true] at he
    exact Cb.near hn.symm h1 (fun n hr => disj_spec' he.1.1.1 hr) hy
  have fwd : ∀ {s' : SS} {y : NF} {fy : FP}, early xa fa y fy = true → Near db y.writes s s' → Na s' = some (xa, fa) := by
    intro s' y fy he hn
    simp only [early, Bool.and_eq_true] at he
    exact Ca.near hn h3 (fun n hr => disj_spec he.1.2 hr) ha
  have hww : ∀ {y : NF} {fy : FP}, early xa fa y fy = true → ∀ n, n ∈ xa.writes → n ∉ y.writes := by
    intro y fy he n hn
    simp only [early, Bool.and_eq_true] at he
    exact disj_spec he.1.1.2 hn
  have kok : ∀ {y : NF} {fy : FP}, early xa fa y fy = true → kindOk xa y = true := by
    intro y fy he
    simp only [early, Bool.and_eq_true] at he
    exact he.2
  cases xa with
  | fl cs k X =>
    obtain ⟨hcs, vs, hp, y, fy, hy, he, hC, hr⟩ := hb
    refine ⟨y, fy, back (near_set da _ s (X vs)) hy he, he, hC, ?_⟩
    have ko := kok he
    cases y with
    | fl cs' k' Y =>
      obtain ⟨hcs', us, hp', hk⟩ := hr
      refine ⟨hcs', us, hp', fwd he (near_set db _ s (Y us)), near_set db _ s _, hcs, vs, hp, ?_⟩
      rw [SS.set_comm h2] at hk; exact hk
    | box cs' n T cells val =>
      obtain ⟨hcs', hk⟩ := hr
      refine ⟨hcs', fun r => ⟨fwd he (near_box db s n _ _), near_box db s n _ _, hcs, vs, hp, ?_⟩⟩
      have := hk r
      rw [SS.set_setBox, SS.set_comm h2] at this; exact this
    | stb cs' n b =>
      obtain ⟨hcs', hk⟩ := hr
      refine ⟨hcs', fwd he (near_stb db s n _), near_stb db s n _, hcs, vs, hp, ?_⟩
      rw [SS.set_setBox] at hk; exact hk
    | hv cs' hk' frz own shp post sv =>
      obtain ⟨hcs', hr⟩ := hr
      refine ⟨hcs', fun hcons => ?_⟩
      obtain ⟨H1, O1, O2, R, hgh, hT, hk⟩ := hr hcons
      refine ⟨H1, O1, O2, R, hgh, hT, fun v H' O' hR hle => ?_⟩
      obtain ⟨us, css, O3, e1, e2, e3, e4, e5, e6⟩ := hk v H' O' hR hle
      refine ⟨us, css, O3, e1, e2, e3, e4, e5, fwd he (near_hv db frz own sv s us css), near_hv db frz own sv s us css, hcs, vs, ?_, ?_⟩
      · cases hl : k.isLoad with
        | false => exact FK.pre_any hl hp
        | true =>
          have hcall : hk'.isCall' = true := by simpa [kindOk, hl] using ko
          simp only [hcall, Bool.and_true, if_true] at hgh
          obtain ⟨rfl, rfl, rfl⟩ := hgh
          exact FK.pre_mono (Heap.le_trans (Heap.le_insAll _ _) hle) (fun x hx => by simp [hx]) hp
      · rw [hvUpd_set h2] at e6; exact e6
    | st cs' p ws =>
      obtain ⟨hcs', O', hst', hk⟩ := hr
      have hl : k.isLoad = false := by simpa [kindOk] using ko
      exact ⟨hcs', O', hst', fwd he (near_refl db _ s), near_refl db _ s, hcs, vs, FK.pre_any hl hp, hk⟩
  | box cs n T cells val =>
    obtain ⟨hcs, hk0⟩ := hb
    obtain ⟨y, fy, hy, he, hC, hr0⟩ := hk0 0
    have hys := back (near_box da s n _ _) hy he
    have hall : ∀ r, y.run P true db ((s.setBox n (some ⟨r, T, cells⟩)).set da (.s (.at (val r)))) K H O := by
      intro r
      obtain ⟨y', fy', hy', he', _, hr'⟩ := hk0 r
      have := (back (near_box da s n _ _) hy' he').symm.trans hys
      simp only [Option.some.injEq, Prod.mk.injEq] at this
      rw [← this.1]; exact hr'
    refine ⟨y, fy, hys, he, hC, ?_⟩
    have ko := kok he
    have hn : ∀ m, m ∈ y.writes → n ≠ m := fun m hm e => hww he n (by simp [NF.writes]) (e ▸ hm)
    cases y with
    | fl cs' k' Y =>
      have hch : k'.ch = false := by simpa [kindOk, NF.ch] using ko
      obtain ⟨hcs', us, hp', _⟩ := hr0
      refine ⟨hcs', us, hp', fwd he (near_set db _ s (Y us)), near_set db _ s _, hcs, fun r => ?_⟩
      obtain ⟨_, us', hp'', hk⟩ := hall r
      rw [← FK.pre_unique hch hp' hp'', SS.set_comm h2] at hk
      rw [SS.set_setBox]; exact hk
    | box cs' m T' cells' val' =>
      obtain ⟨hcs', _⟩ := hr0
      refine ⟨hcs', fun r' => ⟨fwd he (near_box db s m _ _), near_box db s m _ _, hcs, fun r => ?_⟩⟩
      have := (hall r).2 r'
      rw [SS.set_setBox, SS.set_comm h2, SS.setBox_comm (hn m (by simp [NF.writes]))] at this
      rw [SS.set_setBox]; exact this
    | stb cs' m b =>
      obtain ⟨hcs', _⟩ := hr0
      refine ⟨hcs', fwd he (near_stb db s m _), near_stb db s m _, hcs, fun r => ?_⟩
      have := (hall r).2
      rw [SS.set_setBox, SS.setBox_comm (hn m (by simp [NF.writes]))] at this
      exact this
    | hv _ _ _ _ _ _ _ => simp [kindOk] at ko
    | st _ _ _ => simp [kindOk] at ko
  | stb cs n b =>
    obtain ⟨hcs, y, fy, hy, he, hC, hr⟩ := hb
    refine ⟨y, fy, back (near_stb da s n _) hy he, he, hC, ?_⟩
    have hn : ∀ m, m ∈ y.writes → n ≠ m := fun m hm e => hww he n (by simp [NF.writes]) (e ▸ hm)
    cases y with
    | fl cs' k' Y =>
      obtain ⟨hcs', us, hp', hk⟩ := hr
      refine ⟨hcs', us, hp', fwd he (near_set db _ s (Y us)), near_set db _ s _, hcs, ?_⟩
      rw [SS.set_setBox]; exact hk
    | box cs' m T cells val =>
      obtain ⟨hcs', hk⟩ := hr
      refine ⟨hcs', fun r => ⟨fwd he (near_box db s m _ _), near_box db s m _ _, hcs, ?_⟩⟩
      have := hk r
      rw [SS.setBox_comm (hn m (by simp [NF.writes]))] at this
      rw [SS.set_setBox]; exact this
    | stb cs' m b' =>
      obtain ⟨hcs', hk⟩ := hr
      refine ⟨hcs', fwd he (near_stb db s m _), near_stb db s m _, hcs, ?_⟩
      rw [SS.setBox_comm (hn m (by simp [NF.writes]))] at hk; exact hk
    | hv cs' hk' frz own shp post sv =>
      obtain ⟨hcs', hr⟩ := hr
      refine ⟨hcs', fun hcons => ?_⟩
      obtain ⟨H1, O1, O2, R, hgh, hT, hk⟩ := hr hcons
      refine ⟨H1, O1, O2, R, hgh, hT, fun v H' O' hR hle => ?_⟩
      obtain ⟨us, css, O3, e1, e2, e3, e4, e5, e6⟩ := hk v H' O' hR hle
      refine ⟨us, css, O3, e1, e2, e3, e4, e5, fwd he (near_hv db frz own sv s us css), near_hv db frz own sv s us css, hcs, ?_⟩
      rw [hvUpd_setBox (fun hm => hn n hm rfl)] at e6; exact e6
    | st cs' p ws =>
      obtain ⟨hcs', O', hst', hk⟩ := hr
      exact ⟨hcs', O', hst', fwd he (near_refl db _ s), near_refl db _ s, hcs, hk⟩
  | hv cs hk frz own shp post sv =>
    obtain ⟨y, fy, hys, he, hC⟩ := hst rfl
    refine ⟨y, fy, hys, he, hC, ?_⟩
    have ko := kok he
    cases y with
    | box cs' n T cells val =>
      have hcs' : cs' = [] := by simpa [kindOk] using ko
      subst hcs'
      obtain ⟨hcs, hb⟩ := hb
      refine ⟨trivial, fun r => ⟨fwd he (near_box db s n _ _), near_box db s n _ _, hcs, fun hcons => ?_⟩⟩
      obtain ⟨H1, O1, O2, R, hgh, hT, hk'⟩ := hb hcons
      refine ⟨H1, O1, O2, R, hgh, hT, fun v H' O' hR hle => ?_⟩
      obtain ⟨us, css, O3, e1, e2, e3, e4, e5, y', fy', hy', he', _, hr'⟩ := hk' v H' O' hR hle
      have := (back (near_hv da frz own sv s us css) hy' he').symm.trans hys
      simp only [Option.some.injEq, Prod.mk.injEq] at this
      obtain ⟨rfl, rfl⟩ := this
      refine ⟨us, css, O3, e1, e2, e3, e4, e5, ?_⟩
      have hn : n ∉ (frz ++ own).map (·.1) := fun hm => hww he n hm (by simp [NF.writes])
      rw [hvUpd_set (fun d hd hd' => h2 d hd' hd), hvUpd_setBox hn]
      exact hr'.2 r
    | _ => simp [kindOk] at ko
  | st cs p ws =>
    obtain ⟨hcs, O', hst', y, fy, hy, he, hC, hr⟩ := hb
    refine ⟨y, fy, back (near_refl da _ s) hy he, he, hC, ?_⟩
    have ko := kok he
    cases y with
    | box cs' n T cells val =>
      obtain ⟨hcs', hk⟩ := hr
      exact ⟨hcs', fun r => ⟨fwd he (near_box db s n _ _), near_box db s n _ _, hcs, O', hst', hk r⟩⟩
    | _ => simp [kindOk] at ko
end Go.Sx
