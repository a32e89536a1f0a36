/-
  pad.Unpad: the walk: what it returns for every text shorter than 2^47 bytes.
-/
import Derived.Test.YtojkoedkecnccaaDoorPad
import Derived.WalkSpells
namespace Go.Proofs.YtojkoedkecnccaaDoor.Pad
open Go.RowKit
set_option linter.unusedVariables false
set_option linter.unusedSimpArgs false

def b0 (s : ByteArray) : Nat := (s.get! 0).toNat
def b1 (s : ByteArray) : Nat := (s.get! 1).toNat
/-- what the head of padded bytes tells -/
def told (s : ByteArray) : Nat := b0 s * 256 + b1 s
/-- are these bytes those of a padded text? -/
def Padded (s : ByteArray) : Prop := 2 ≤ s.size ∧ told s ≤ 1022 ∧ cls (told s) = s.size ∧ Lib.trimB (s.data.toList.drop (told s + 2)) 0 = []

theorem get_at0 (s : ByteArray) (h : 0 < s.size) : (s[0]'h).toNat = b0 s := by unfold b0; simp [ByteArray.get!, getElem!_pos, h]; rfl
theorem get_at1 (s : ByteArray) (h : 1 < s.size) : (s[1]'h).toNat = b1 s := by unfold b1; simp [ByteArray.get!, getElem!_pos, h]; rfl

theorem unpad_short (s : ByteArray) (w : World) (hs : s.size < 2) :
    Calls Tryd.prog 20 #[.string s] w fun e w' => e = .returned (.tuple #[.string ⟨#[]⟩, .int .i64 1]) ∧ Below w.heap.size w w' := by
  have hs' : (s.size : Int) < 2 := by omega
  go_enter Tryd.func20, Tryd.ntmps20
  go_wp2
  go_ret2
  exact ⟨rfl, Below.refl _ _⟩

theorem told_or (s : ByteArray) : bits BinOp.or IntKind.i64 ((b0 s : Int) * 256) (b1 s : Int) = (told s : Int) := by
  have l0 : b0 s < 256 := UInt8.toNat_lt _
  have l1 : b1 s < 256 := UInt8.toNat_lt _
  rw [bits_join .i64 16 (by decide) (fun n h0 h1 => by rw [IntKind.wrap_i64]; omega) 8 _ _ (by omega) (by omega) (by omega) (by omega) (by omega) (by omega)]
  unfold told; omega

set_option maxRecDepth 100000 in
set_option maxHeartbeats 1000000 in
theorem unpad_far (s : ByteArray) (w : World) (hs : 2 ≤ s.size) (hl : s.size ≤ 140737488351232) (hq : 1022 < told s) :
    Calls Tryd.prog 20 #[.string s] w fun e w' => e = .returned (.tuple #[.string ⟨#[]⟩, .int .i64 1]) ∧ Below w.heap.size w w' := by
  have g0 := get_at0 s (Nat.lt_of_lt_of_le (by decide) hs)
  have g1 := get_at1 s (Nat.lt_of_lt_of_le (by decide) hs)
  have l0 : b0 s < 256 := UInt8.toNat_lt _
  have l1 : b1 s < 256 := UInt8.toNat_lt _
  have hs' : (1 : Int) < (s.size : Int) := by omega
  have hs'' : (0 : Int) < (s.size : Int) := by omega
  have hor := told_or s
  have hc := fun x => class_any (told s) x (by omega) (by unfold told; omega)
  have hz : classZ (told s) = (0, 3) := by unfold classZ; rw [if_neg (by omega), if_pos (by omega)]
  rw [hz] at hc
  clear hz
  generalize told s = n at hor hc hq
  go_enter Tryd.func20, Tryd.ntmps20
  go_wp2
  go_quiet (fail)
  go_wp2_with (go_at_call 23; refine (hc _).mono ?_; rintro e w' ⟨rfl, rfl⟩)
  go_ret2
  exact ⟨rfl, (Below.refl _ _).trans (below_drewN (Below.refl _ _) _)⟩

set_option maxRecDepth 100000 in
set_option maxHeartbeats 1000000 in
theorem unpad_other (s : ByteArray) (w : World) (hs : 2 ≤ s.size) (hl : s.size ≤ 140737488351232) (hq : told s ≤ 1022) (hne : cls (told s) ≠ s.size) :
    Calls Tryd.prog 20 #[.string s] w fun e w' => e = .returned (.tuple #[.string ⟨#[]⟩, .int .i64 1]) ∧ Below w.heap.size w w' := by
  have g0 := get_at0 s (Nat.lt_of_lt_of_le (by decide) hs)
  have g1 := get_at1 s (Nat.lt_of_lt_of_le (by decide) hs)
  have l0 : b0 s < 256 := UInt8.toNat_lt _
  have l1 : b1 s < 256 := UInt8.toNat_lt _
  have hs' : (1 : Int) < (s.size : Int) := by omega
  have hs'' : (0 : Int) < (s.size : Int) := by omega
  have hor := told_or s
  have hc := fun x => class_any (told s) x (by omega) (by unfold told; omega)
  have hz : classZ (told s) = (cls (told s), 0) := by unfold classZ; rw [if_neg (by omega), if_neg (by omega)]
  rw [hz] at hc
  clear hz
  have hne' : (cls (told s) != (s.size : Int)) = true := bne_iff_ne.2 hne
  generalize cls (told s) = c at hc hne'
  generalize told s = n at hor hc hq
  clear hne
  go_enter Tryd.func20, Tryd.ntmps20
  go_wp2
  go_quiet (fail)
  go_wp2_with (go_at_call 23; refine (hc _).mono ?_; rintro e w' ⟨rfl, rfl⟩)
  go_ret2
  exact ⟨rfl, (Below.refl _ _).trans (below_drewN (Below.refl _ _) _)⟩

/-- the text of which these bytes are the padded one -/
def inner (s : ByteArray) : ByteArray := s.extract 2 (told s + 2)

set_option maxRecDepth 100000 in
set_option maxHeartbeats 1000000 in
theorem unpad_class (s : ByteArray) (w : World) (hs : 2 ≤ s.size) (hl : s.size ≤ 140737488351232) (hq : told s ≤ 1022) (he : cls (told s) = s.size) :
    Calls Tryd.prog 20 #[.string s] w fun e w' => e = .returned (if Lib.trimB (s.data.toList.drop (told s + 2)) 0 = [] then .tuple #[.string (inner s), .int .i64 0] else .tuple #[.string ⟨#[]⟩, .int .i64 1]) ∧ Below w.heap.size w w' := by
  have g0 := get_at0 s (Nat.lt_of_lt_of_le (by decide) hs)
  have g1 := get_at1 s (Nat.lt_of_lt_of_le (by decide) hs)
  have l0 : b0 s < 256 := UInt8.toNat_lt _
  have l1 : b1 s < 256 := UInt8.toNat_lt _
  have hs' : (1 : Int) < (s.size : Int) := by omega
  have hs'' : (0 : Int) < (s.size : Int) := by omega
  have hor := told_or s
  have hc := fun x => class_any (told s) x (by omega) (by unfold told; omega)
  have hz : classZ (told s) = (cls (told s), 0) := by unfold classZ; rw [if_neg (by omega), if_neg (by omega)]
  have hroom : told s + 2 ≤ s.size := by
    have : ((told s : Nat) : Int) + 2 ≤ cls (told s) := by unfold cls; repeat' split; all_goals omega
    omega
  rw [hz, he] at hc
  clear hz he
  have hin : Hid (inner s = s.extract 2 (told s + 2)) := rfl
  have ht := fun x => Tryd.strings_Trim_one (s.extract (2 + told s) s.size) 0 (by decide) x (by rw [ByteArray.size_extract]; omega)
  rw [show (s.extract (2 + told s) s.size).data.toList = s.data.toList.drop (told s + 2) by rw [Lib.extract_from, Nat.add_comm]] at ht
  generalize Lib.trimB (s.data.toList.drop (told s + 2)) 0 = T at ht
  generalize inner s = I at hin
  generalize told s = n at hor hc hq hroom hin ht
  cases T with
  | nil =>
    rw [if_pos rfl]
    go_enter Tryd.func20, Tryd.ntmps20
    go_wp2
    go_quiet (fail)
    go_wp2_with (first | (go_at_call 23; refine (hc _).mono ?_; rintro e w' ⟨rfl, rfl⟩) | (go_at_call 34; refine (ht _).mono ?_; rintro e w' ⟨rfl, hw'⟩))
    go_ret2
    refine ⟨?_, ?_⟩
    · rw [hin.out]; simp [Nat.add_comm]
    · rcases hw' with rfl | rfl
      · exact (Below.refl _ _).trans (below_drewN (Below.refl _ _) _)
      · exact ((Below.refl _ _).trans (below_drewN (Below.refl _ _) _)).drew
  | cons t0 T =>
    rw [if_neg (by simp)]
    go_enter Tryd.func20, Tryd.ntmps20
    go_wp2
    go_quiet (fail)
    go_wp2_with (first | (go_at_call 23; refine (hc _).mono ?_; rintro e w' ⟨rfl, rfl⟩) | (go_at_call 34; refine (ht _).mono ?_; rintro e w' ⟨rfl, hw'⟩))
    go_ret2
    refine ⟨rfl, ?_⟩
    rcases hw' with rfl | rfl
    · exact (Below.refl _ _).trans (below_drewN (Below.refl _ _) _)
    · exact ((Below.refl _ _).trans (below_drewN (Below.refl _ _) _)).drew
end Go.Proofs.YtojkoedkecnccaaDoor.Pad
