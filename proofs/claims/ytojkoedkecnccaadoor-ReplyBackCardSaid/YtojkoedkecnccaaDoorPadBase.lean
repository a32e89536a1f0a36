/-
  What padding gives, by lists of bytes; the walk of pad.Pad in these words, and that of the statements' own 'awake' (layer 7).
-/
import Derived.Test.YtojkoedkecnccaaDoorPad
namespace Go.Proofs.YtojkoedkecnccaaDoor.Pad
open Go.RowKit
set_option linter.unusedVariables false
set_option linter.unusedSimpArgs false

/-- a text, padded -/
def padF (s : ByteArray) : ByteArray := ⟨#[(s.size / 256).toUInt8, (s.size % 256).toUInt8]⟩ ++ s ++ ⟨(List.replicate ((cls s.size).toNat - 2 - s.size) 0).toArray⟩

theorem ba_ext {a b : ByteArray} (h : a.data.toList = b.data.toList) : a = b := by
  cases a; cases b; congr 1; exact Array.toList_inj.1 h

theorem padF_list (s : ByteArray) : (padF s).data.toList = (s.size / 256).toUInt8 :: (s.size % 256).toUInt8 :: (s.data.toList ++ List.replicate ((cls s.size).toNat - 2 - s.size) 0) := by
  unfold padF
  simp [ByteArray.data_append]

theorem cls_room (n : Nat) (h : n ≤ 1022) : (n : Int) + 2 ≤ cls n ∧ cls n ≤ 1024 ∧ 32 ≤ cls n := by
  unfold cls; repeat' split
  all_goals omega

theorem padF_size (s : ByteArray) (h : s.size ≤ 1022) : ((padF s).size : Int) = cls s.size := by
  have hr := cls_room s.size h
  have : (padF s).size = (padF s).data.toList.length := Array.length_toList.symm
  rw [this, padF_list]
  have hl : s.data.toList.length = s.size := Array.length_toList
  simp only [List.length_cons, List.length_append, List.length_replicate, hl]
  omega

theorem list_size (s : ByteArray) : s.data.toList.length = s.size := Array.length_toList

theorem pad_any (s : ByteArray) (w : World) (hl : s.size ≤ 140737488351232) (hs : s.size ≤ 1022) :
    Calls Tryd.prog 22 #[.string s] w fun e w' => e = .returned (.tuple #[.string (padF s), .int .i64 0]) ∧ Below w.heap.size w w' := pad_fits s w hs

theorem aw_pad : padF ⟨#[1, 2]⟩ = ⟨#[0, 2, 1, 2, 0, 0, 0, 0, 0, 0, 0, 0, 0, 0, 0, 0, 0, 0, 0, 0, 0, 0, 0, 0, 0, 0, 0, 0, 0, 0, 0, 0]⟩ := by decide +kernel

set_option maxRecDepth 100000 in
set_option maxHeartbeats 400000 in
theorem awake07 (w : World) : Calls Tryd.prog 19 #[] w fun e w' => e = .returned (.bool true) ∧ Below w.heap.size w w' := by
  have c1 := fun x => pad_any ⟨#[1, 2]⟩ x (by decide) (by decide)
  rw [aw_pad] at c1
  have hx : ((⟨#[0, 2, 1, 2, 0, 0, 0, 0, 0, 0, 0, 0, 0, 0, 0, 0, 0, 0, 0, 0, 0, 0, 0, 0, 0, 0, 0, 0, 0, 0, 0, 0]⟩ : ByteArray).extract 0 5).toList = [0, 2, 1, 2, 0] := by decide +kernel
  go_enter Tryd.func19, Tryd.ntmps19
  go_wp2_with (go_at_call 22; refine (c1 _).mono ?_; rintro e w1 ⟨rfl, hb1⟩)
  go_ret
  exact ⟨rfl, hb1⟩
end Go.Proofs.YtojkoedkecnccaaDoor.Pad
