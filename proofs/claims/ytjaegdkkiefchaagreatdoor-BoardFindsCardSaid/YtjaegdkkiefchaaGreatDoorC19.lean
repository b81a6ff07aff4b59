/- Copies of slices: the program's. -/
import Derived.Test.YtjaegdkkiefchaaGreatDoorC18
import Derived.Test.YtjaegdkkiefchaaGreatDoorM3
namespace Go.Proofs.YtjaegdkkiefchaaGreatDoor
open Go Go.Sx
set_option maxRecDepth 100000
set_option maxHeartbeats 1000000

def tys : Tys := ⟨Ty_int, Ty_api_Object, Ty_api_Block, Ty_api_Item, Ty_api_Target⟩
theorem c_Clone_api_Object {H : Heap} {v : Value} {l : List (List Value)} (h : Sl H 12 v l) (hb : l.length ≤ 2 ^ 40) : Triple PP F_slices_Clone_api_Object_api_Object [v] H [] fun v' H' O' => OSl Ty_api_Object 12 v' l O' := by
  refine run_slices_Clone_api_Object_api_Object (vs := [v]) (by kernel_rfl) ⟨h.one, trivial⟩ ?_
  simp only [T_slices_Clone_api_Object_api_Object]
  obtain ⟨a, cap, rfl, h1, h2, h3⟩ := h
  have hev : evalPure (.bin .eql .slice) [.slice a l.length cap, .slice none 0 0] = some (.bool a.isNone) := by cases a <;> rfl
  refine pure_den _ hev (br_den (fun hn => ret_denO ?_) (fun hn => fun r0 => ?_))
  · have hl : l = [] := by
      by_cases hl : l = []
      · exact hl
      · obtain ⟨ad, rfl, _⟩ := h3 hl; cases hn
    subst hl
    exact OSl.nil Ty_api_Object 12
  · refine call_append (rows := []) (news := l) (O1 := []) (O2 := []) (e := Ty_api_Object) (size := 12) (bytes := 80) (by kernel_rfl) (List.Perm.refl _) (.inl ⟨⟨_, rfl⟩, rfl, rfl⟩) (fun Hf hl _ => Sl.le hl ⟨a, cap, rfl, h1, h2, h3⟩) (by simp; omega) (by simp; omega) ?_
    intro v' O1' H' _ ho
    refine ret_denO ?_
    rw [List.append_nil]
    exact ho
theorem c_Clone_api_Block {H : Heap} {v : Value} {l : List (List Value)} (h : Sl H 2 v l) (hb : l.length ≤ 2 ^ 40) : Triple PP F_slices_Clone_api_Block_api_Block [v] H [] fun v' H' O' => OSl Ty_api_Block 2 v' l O' := by
  refine run_slices_Clone_api_Block_api_Block (vs := [v]) (by kernel_rfl) ⟨h.one, trivial⟩ ?_
  simp only [T_slices_Clone_api_Block_api_Block]
  obtain ⟨a, cap, rfl, h1, h2, h3⟩ := h
  have hev : evalPure (.bin .eql .slice) [.slice a l.length cap, .slice none 0 0] = some (.bool a.isNone) := by cases a <;> rfl
  refine pure_den _ hev (br_den (fun hn => ret_denO ?_) (fun hn => fun r0 => ?_))
  · have hl : l = [] := by
      by_cases hl : l = []
      · exact hl
      · obtain ⟨ad, rfl, _⟩ := h3 hl; cases hn
    subst hl
    exact OSl.nil Ty_api_Block 2
  · refine call_append (rows := []) (news := l) (O1 := []) (O2 := []) (e := Ty_api_Block) (size := 2) (bytes := 16) (by kernel_rfl) (List.Perm.refl _) (.inl ⟨⟨_, rfl⟩, rfl, rfl⟩) (fun Hf hl _ => Sl.le hl ⟨a, cap, rfl, h1, h2, h3⟩) (by simp; omega) (by simp; omega) ?_
    intro v' O1' H' _ ho
    refine ret_denO ?_
    rw [List.append_nil]
    exact ho
theorem c_Clone_api_Item {H : Heap} {v : Value} {l : List (List Value)} (h : Sl H 5 v l) (hb : l.length ≤ 2 ^ 40) : Triple PP F_slices_Clone_api_Item_api_Item [v] H [] fun v' H' O' => OSl Ty_api_Item 5 v' l O' := by
  refine run_slices_Clone_api_Item_api_Item (vs := [v]) (by kernel_rfl) ⟨h.one, trivial⟩ ?_
  simp only [T_slices_Clone_api_Item_api_Item]
  obtain ⟨a, cap, rfl, h1, h2, h3⟩ := h
  have hev : evalPure (.bin .eql .slice) [.slice a l.length cap, .slice none 0 0] = some (.bool a.isNone) := by cases a <;> rfl
  refine pure_den _ hev (br_den (fun hn => ret_denO ?_) (fun hn => fun r0 => ?_))
  · have hl : l = [] := by
      by_cases hl : l = []
      · exact hl
      · obtain ⟨ad, rfl, _⟩ := h3 hl; cases hn
    subst hl
    exact OSl.nil Ty_api_Item 5
  · refine call_append (rows := []) (news := l) (O1 := []) (O2 := []) (e := Ty_api_Item) (size := 5) (bytes := 56) (by kernel_rfl) (List.Perm.refl _) (.inl ⟨⟨_, rfl⟩, rfl, rfl⟩) (fun Hf hl _ => Sl.le hl ⟨a, cap, rfl, h1, h2, h3⟩) (by simp; omega) (by simp; omega) ?_
    intro v' O1' H' _ ho
    refine ret_denO ?_
    rw [List.append_nil]
    exact ho
theorem c_Clone_api_Target {H : Heap} {v : Value} {l : List (List Value)} (h : Sl H 2 v l) (hb : l.length ≤ 2 ^ 40) : Triple PP F_slices_Clone_api_Target_api_Target [v] H [] fun v' H' O' => OSl Ty_api_Target 2 v' l O' := by
  refine run_slices_Clone_api_Target_api_Target (vs := [v]) (by kernel_rfl) ⟨h.one, trivial⟩ ?_
  simp only [T_slices_Clone_api_Target_api_Target]
  obtain ⟨a, cap, rfl, h1, h2, h3⟩ := h
  have hev : evalPure (.bin .eql .slice) [.slice a l.length cap, .slice none 0 0] = some (.bool a.isNone) := by cases a <;> rfl
  refine pure_den _ hev (br_den (fun hn => ret_denO ?_) (fun hn => fun r0 => ?_))
  · have hl : l = [] := by
      by_cases hl : l = []
      · exact hl
      · obtain ⟨ad, rfl, _⟩ := h3 hl; cases hn
    subst hl
    exact OSl.nil Ty_api_Target 2
  · refine call_append (rows := []) (news := l) (O1 := []) (O2 := []) (e := Ty_api_Target) (size := 2) (bytes := 16) (by kernel_rfl) (List.Perm.refl _) (.inl ⟨⟨_, rfl⟩, rfl, rfl⟩) (fun Hf hl _ => Sl.le hl ⟨a, cap, rfl, h1, h2, h3⟩) (by simp; omega) (by simp; omega) ?_
    intro v' O1' H' _ ho
    refine ret_denO ?_
    rw [List.append_nil]
    exact ho
end Go.Proofs.YtjaegdkkiefchaaGreatDoor
