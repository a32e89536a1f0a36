/-
  The document's answer of layer 7, Unpad: the walk: what it returns, in the words of the plain laws of padding.
-/
import Derived.Test.YtojkoedkecnccaaDoorRef07
import Derived.Test.YtojkoedkecnccaaDoorPadPlain
namespace Go.Proofs.YtojkoedkecnccaaDoor.Pad
open Go.RowKit
set_option linter.unusedVariables false
set_option linter.unusedSimpArgs false

theorem told_inner {s : ByteArray} (h2 : 2 ≤ s.size) (h : told s + 2 ≤ s.size) : (inner s).size = told s := by
  rw [← list_size, inner_list, List.length_take, List.length_drop, list_size]; omega

theorem padded_of {s : ByteArray} (h2 : 2 ≤ s.size) (h : told s + 2 ≤ s.size) (h3 : told s ≤ 1022) (h4 : padF (inner s) = s) : Padded s := by
  have := padF_padded (inner s) (by rw [told_inner h2 h]; exact h3)
  rw [h4] at this; exact this
theorem padded_room {s : ByteArray} (h : Padded s) : told s + 2 ≤ s.size := by
  have := cls_room (told s) h.2.1
  have := h.2.2.1
  omega

theorem unpadR_short (s : ByteArray) (w : World) (hs : s.size < 2) :
    Calls Tryd.prog 21 #[.string s] w fun e w' => e = .returned (.tuple #[.string ⟨#[]⟩, .int .i64 1]) ∧ Below w.heap.size w w' := by
  have hs' : (s.size : Int) < 2 := by omega
  go_enter Tryd.func21, Tryd.ntmps21
  go_wp2
  go_ret2
  exact ⟨rfl, Below.refl _ _⟩

set_option maxRecDepth 100000 in
set_option maxHeartbeats 1000000 in
theorem unpadR_far (s : ByteArray) (w : World) (hs : 2 ≤ s.size) (hl : s.size ≤ 140737488351232) (hq : s.size < told s + 2) :
    Calls Tryd.prog 21 #[.string s] w fun e w' => e = .returned (.tuple #[.string ⟨#[]⟩, .int .i64 1]) ∧ Below w.heap.size w w' := by
  have g0 := get_at0 s (Nat.lt_of_lt_of_le (by decide) hs)
  have g1 := get_at1 s (Nat.lt_of_lt_of_le (by decide) hs)
  have l0 : b0 s < 256 := UInt8.toNat_lt _
  have l1 : b1 s < 256 := UInt8.toNat_lt _
  have hs' : (1 : Int) < (s.size : Int) := by omega
  have hs'' : (0 : Int) < (s.size : Int) := by omega
  have hq' : (s.size : Int) - 2 < (b0 s : Int) * 256 + (b1 s : Int) := by unfold told at hq; omega
  go_enter Tryd.func21, Tryd.ntmps21
  go_wp2
  go_quiet (fail)
  go_wp2
  go_ret2
  exact ⟨rfl, below_drewN (Below.refl _ _) _⟩

set_option maxRecDepth 100000 in
set_option maxHeartbeats 1000000 in
theorem unpadR_near (s : ByteArray) (w : World) (hs : 2 ≤ s.size) (hl : s.size ≤ 140737488351232) (hq : told s + 2 ≤ s.size) :
    Calls Tryd.prog 21 #[.string s] w fun e w' => e = .returned (if told s ≤ 1022 ∧ padF (inner s) = s then .tuple #[.string (inner s), .int .i64 0] else .tuple #[.string ⟨#[]⟩, .int .i64 1]) ∧ Below w.heap.size w w' := by
  have g0 := get_at0 s (Nat.lt_of_lt_of_le (by decide) hs)
  have g1 := get_at1 s (Nat.lt_of_lt_of_le (by decide) hs)
  have l0 : b0 s < 256 := UInt8.toNat_lt _
  have l1 : b1 s < 256 := UInt8.toNat_lt _
  have hs' : (1 : Int) < (s.size : Int) := by omega
  have hs'' : (0 : Int) < (s.size : Int) := by omega
  have ht : told s = b0 s * 256 + b1 s := rfl
  have hq' : (b0 s : Int) * 256 + (b1 s : Int) ≤ (s.size : Int) - 2 := by omega
  have hp := fun x => padR_any (inner s) x (by rw [told_inner hs hq]; omega)
  rw [told_inner hs hq] at hp
  have hin : inner s = s.extract 2 (2 + (b0 s * 256 + b1 s)) := by unfold inner; rw [ht, Nat.add_comm]
  have hinH := Lib.hid hin
  rw [hin] at hp
  rw [hin]
  rw [ht]
  rw [ht] at hp
  clear hin ht
  by_cases h1 : b0 s * 256 + b1 s ≤ 1022
  · rw [if_pos h1] at hp
    by_cases h2 : padF (s.extract 2 (2 + (b0 s * 256 + b1 s))) = s
    · rw [h2] at hp
      rw [if_pos ⟨h1, h2⟩]
      clear h2
      go_enter Tryd.func21, Tryd.ntmps21
      go_wp2
      go_quiet (fail)
      go_wp2_with (go_at_call 35; refine (hp _).mono ?_; rintro e w1 ⟨rfl, g1⟩)
      go_ret2
      exact ⟨rfl, (below_drewN (Below.refl _ _) _).trans g1⟩
    · rw [if_neg (fun h => h2 h.2)]
      have n1 : ¬ (padF (s.extract 2 (2 + (b0 s * 256 + b1 s)))).toList = s.toList := fun h => h2 (by
        rw [Lib.toList_data, Lib.toList_data] at h; exact ba_ext h)
      have n2 : ((padF (s.extract 2 (2 + (b0 s * 256 + b1 s)))).toList == s.toList) = false := beq_eq_false_iff_ne.2 n1
      generalize padF (s.extract 2 (2 + (b0 s * 256 + b1 s))) = P at hp n1 n2
      clear h2
      go_enter Tryd.func21, Tryd.ntmps21
      go_wp2
      go_quiet (fail)
      go_wp2_with (go_at_call 35; refine (hp _).mono ?_; rintro e w1 ⟨rfl, g1⟩)
      go_ret2
      exact ⟨rfl, (below_drewN (Below.refl _ _) _).trans g1⟩
  · rw [if_neg h1] at hp
    rw [if_neg (fun h => h1 h.1)]
    go_enter Tryd.func21, Tryd.ntmps21
    go_wp2
    go_quiet (fail)
    go_wp2_with (go_at_call 35; refine (hp _).mono ?_; rintro e w1 ⟨rfl, g1⟩)
    go_ret2
    exact ⟨rfl, (below_drewN (Below.refl _ _) _).trans g1⟩

theorem unpadR_any (s : ByteArray) (w : World) (hl : s.size ≤ 140737488351232) :
    (Padded s → Calls Tryd.prog 21 #[.string s] w fun e w' => e = .returned (.tuple #[.string (inner s), .int .i64 0]) ∧ Below w.heap.size w w') ∧
    (¬ Padded s → Calls Tryd.prog 21 #[.string s] w fun e w' => e = .returned (.tuple #[.string ⟨#[]⟩, .int .i64 1]) ∧ Below w.heap.size w w') := by
  constructor
  · intro h
    have := unpadR_near s w h.1 hl (padded_room h)
    rw [if_pos ⟨h.2.1, padF_inner s h⟩] at this
    exact this
  · intro h
    by_cases h1 : 2 ≤ s.size
    · by_cases h2 : told s + 2 ≤ s.size
      · have := unpadR_near s w h1 hl h2
        rw [if_neg (fun h4 => h (padded_of h1 h2 h4.1 h4.2))] at this
        exact this
      · exact unpadR_far s w h1 hl (by omega)
    · exact unpadR_short s w (by omega)
end Go.Proofs.YtojkoedkecnccaaDoor.Pad
