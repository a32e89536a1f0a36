/-
  utf.Bad: the walk: what it returns for every text. It asks that the library's two tables of utf8 are laid.
-/
import Derived.Test.YtojkoedkecnccaaDoorProg
import Derived.Test.YtojkoedkecnccaaDoorShelf
import Derived.Test.YtojkoedkecnccaaDoorRunes
import Derived.WalkKit
import Derived.Outline
import Derived.Below
import Derived.WalkSmall
import Derived.Lib.Hide
import Derived.Lib.RuneCountTail
namespace Go.Proofs.YtojkoedkecnccaaDoor.Utf
open Go.RowKit Go.Proofs.YtojkoedkecnccaaDoor.Utx
set_option linter.unusedVariables false
set_option linter.unusedSimpArgs false

def badZ (s : ByteArray) : Int := match badOf s with | none => -1 | some p => p

theorem dec_rune (s : ByteArray) (p : Nat) (h : p < s.size) :
    (runeAt s p = 0 ∧ Utf8.decode s p = (65533, 1)) ∨ (0 < runeAt s p ∧ (Utf8.decode s p).2 = runeAt s p ∧ ((Utf8.decode s p).1 = 65533 → 2 ≤ runeAt s p)) := by
  rw [Lib.decode_at]
  exact rune_decode _ _ _ _ _ (UInt8.toNat_lt _) (UInt8.toNat_lt _) (UInt8.toNat_lt _) (UInt8.toNat_lt _)

theorem decode_extract (s : ByteArray) (p : Nat) (h : p < s.size) : Lib.decodeGo (s.extract p s.size) = Utf8.decode s p := by
  have hs : (s.extract p s.size).size = s.size - p := by rw [ByteArray.size_extract]; omega
  unfold Lib.decodeGo
  rw [if_neg (by omega), Lib.tail_decode]
  simp

set_option maxHeartbeats 400000 in
theorem bad_any (s : ByteArray) (w : World) (hs : s.size ≤ maxLen) (hT : Lib.Utf8Tabs 0 1 w) :
    Calls Tryd.prog 11 #[.string s] w fun e w' => e = .returned (.int .i64 (badZ s)) ∧ Below w.heap.size w w' := by
  unfold maxLen at hs
  go_enter Tryd.func11, Tryd.ntmps11
  go_wp2_with fail
  go_loopw [3] (fun i wr => ∃ pos, pos ≤ s.size ∧ wr.heap[w.heap.size]? = some (.stringIter s pos) ∧ Below w.heap.size w wr ∧ w.heap.size < wr.heap.size ∧ Hid (badF s s.size pos = badOf s)) (fun _ wr => s.size - wr.iterPos w.heap.size)
  case atStart => exact ⟨0, Nat.zero_le _, World.iter_heap _ _ _, (Below.refl _ _).alloc (Nat.le_refl _) _, by show w.heap.size < (w.alloc _).heap.size; simp, rfl⟩
  case round =>
    obtain ⟨pos, hpos, hit, hb, hsz, hbad⟩ := hrel
    by_cases hp : pos < s.size
    · have hit2 : ∀ q, (wr.iterAt w.heap.size s q).heap[w.heap.size]? = some (.stringIter s q) := fun q => Lib.iterAt_heap wr _ s pos q hit
      have hT2 : ∀ q, Lib.Utf8Tabs 0 1 (wr.iterAt w.heap.size s q) := fun q => Utf8Tabs_below hT (Lib.below_iterAt hb (Nat.le_refl _) s q)
      have hp' : (pos : Int) < (s.size : Int) := by omega
      have hcall := fun q => Tryd.utf8_DecodeRuneInString (s.extract pos s.size) (wr.iterAt w.heap.size s q) (hT2 q)
      rw [decode_extract s pos hp] at hcall
      have hstep : Hid (badF s s.size pos = badOf s) → 0 < runeAt s pos → Hid (badF s s.size (pos + runeAt s pos) = badOf s) := by
        intro h1 h2
        have h3 := h1.out
        have : s.size = (s.size - 1) + 1 := by omega
        rw [this] at h3
        simp only [badF] at h3
        rw [if_pos hp, if_neg (by omega)] at h3
        rw [badF_more s s.size (s.size - 1) _ (by omega) (by omega)]
        exact h3
      have hpos1 := hit
      clear hT
      rcases dec_rune s pos hp with ⟨h0, hd⟩ | ⟨h0, hd2, hd1⟩
      · have hnx : ∀ ty, (Instr.next (.pointer (some ⟨w.heap.size, 0, none⟩)) true ty).run Tryd.prog wr = _ := fun ty => Lib.run_next_any_at wr w.heap.size s pos ty hit hp
        rw [hd] at hnx hcall
        have hz : Hid (badZ s = pos) := by
          have : badOf s = some pos := by
            rw [← hbad.out]
            have e : s.size = (s.size - 1) + 1 := by omega
            rw [e]
            simp only [badF]
            rw [if_pos hp, if_pos h0]
          show badZ s = pos
          unfold badZ; rw [this]
        clear h0 hd
        go_wp2_with (go_at_call 31; refine (hcall _).mono ?_; rintro e w' ⟨rfl, hb'⟩)
        go_ret
        exact ⟨by rw [hz.out]; rfl, (Lib.below_iterAt hb (Nat.le_refl _) s _).trans (hb'.mono (by rw [Lib.iterAt_size]; omega))⟩
      · have hle := runeAt_le s pos hp
        have hnx : ∀ ty, (Instr.next (.pointer (some ⟨w.heap.size, 0, none⟩)) true ty).run Tryd.prog wr = _ := fun ty => Lib.run_next_any_at wr w.heap.size s pos ty hit hp
        have hb2 : Below w.heap.size w (wr.iterAt w.heap.size s (pos + runeAt s pos)) := Lib.below_iterAt hb (Nat.le_refl _) s _
        have hbad2 := hstep hbad h0
        have hit3 := hit2 (pos + runeAt s pos)
        clear hstep hit2 hT2 hbad
        obtain ⟨c, hc⟩ : ∃ c, (Utf8.decode s pos).1 = c := ⟨_, rfl⟩
        obtain ⟨k, hk⟩ : ∃ k, (Utf8.decode s pos).2 = k := ⟨_, rfl⟩
        rw [hc, hk] at hnx hcall
        have hkr : k = runeAt s pos := hk.symm.trans hd2
        rw [← hkr] at hbad2 hit3 hb2 h0 hle hd1
        rw [hc] at hd1
        clear hc hk hd2 hkr
        by_cases hcc : c = 65533
        · have hk2 := hd1 hcc
          subst hcc
          clear hd1
          go_wp2_with (go_at_call 31; refine (hcall _).mono ?_; rintro e w' ⟨rfl, hb'⟩)
          go_roundw
          case rel =>
            have hlt : w.heap.size < (wr.iterAt w.heap.size s (pos + k)).heap.size := by rw [Lib.iterAt_size]; exact hsz
            exact ⟨pos + k, hle, (hb'.block _ hlt).trans hit3, hb2.trans (hb'.mono (by omega)), Nat.lt_of_lt_of_le hlt hb'.size, hbad2⟩
          case measure =>
            have hlt : w.heap.size < (wr.iterAt w.heap.size s (pos + k)).heap.size := by rw [Lib.iterAt_size]; exact hsz
            rw [iterPos_of ((hb'.block _ hlt).trans hit3), iterPos_of hit]; omega
        · have h1 : ((c : Int) != 65533) = true := by rw [bne_iff_ne]; omega
          clear hd1 hcc
          go_wp2
          go_roundw
          case rel => exact ⟨pos + k, hle, hit3, hb2, by rw [Lib.iterAt_size]; exact hsz, hbad2⟩
          case measure => rw [iterPos_of hit3, iterPos_of hit]; omega
    · have hnx : ∀ ty, (Instr.next (.pointer (some ⟨w.heap.size, 0, none⟩)) true ty).run Tryd.prog wr = _ := fun ty => Lib.run_next_end_at wr w.heap.size s pos ty hit hp
      have hz : Hid (badZ s = -1) := by
        have : badOf s = none := by
          rw [← hbad.out]
          cases h : s.size with
          | zero => simp [badF]
          | succ n => simp only [badF]; rw [if_neg (by omega)]
        show badZ s = -1
        unfold badZ; rw [this]
      go_wp2
      go_ret
      exact ⟨by rw [hz.out]; rfl, hb⟩
end Go.Proofs.YtojkoedkecnccaaDoor.Utf
