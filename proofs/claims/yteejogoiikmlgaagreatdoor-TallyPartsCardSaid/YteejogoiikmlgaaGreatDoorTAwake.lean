/-
  What a tally says: none, or one of small numbers; the example of chapter 49.
-/
import Derived.Test.YteejogoiikmlgaaGreatDoorTTextW
namespace Go.Proofs.YteejogoiikmlgaaGreatDoor.Serv
open Go.RowKit Go.Proofs.YteejogoiikmlgaaGreatDoor.Tally
set_option linter.unusedVariables false
set_option linter.unusedSimpArgs false
set_option linter.unnecessarySimpa false

theorem itoa_small : ∀ i : Nat, i < 100 → Lib.itoa (i : Int) = Lib.decDigits i := by decide +kernel
theorem itoa_le : ∀ i : Nat, i < 100 → (itoaB (i : Int)).size ≤ 30 := by decide +kernel

theorem says_none (w : World) : Says (.pointer none) zero w where
  came := fun W k _ _ _ => came_nil k W
  refused := fun W k _ _ _ => refused_nil k W
  served := fun W k _ _ => served_nil k W
  rest := fun W _ => (rest_nil W).mono fun _ _ ⟨he, hw⟩ => ⟨he, hw ▸ Below.refl _ _⟩
  size := fun i => by show (itoaB 0).size ≤ 30; decide +kernel
  fmt := fun W i _ _ h => absurd rfl h

def Small (f : Nat → Int) : Prop := ∀ i, ∃ n : Nat, f i = (n : Int) ∧ n < 100

theorem says_small (B : Nat) (f : Nat → Int) (w : World) (h : Tal B f w) (hf : Small f) : Says (.pointer (some ⟨B, 0, none⟩)) f w where
  came := fun W k hb h1 h9 => by
    have := came_any B f k W ((hb.block B h.lt).trans h)
    rwa [show got f 0 1 9 (k : Int) = f k by unfold got withinB; rw [if_pos (by simp; omega)]; congr 1; omega] at this
  refused := fun W k hb h1 h9 => by
    have := refused_any B f k W ((hb.block B h.lt).trans h)
    rwa [show got f 10 1 20 (k : Int) = f (k + 10) by unfold got withinB; rw [if_pos (by simp; omega)]; congr 1; omega] at this
  served := fun W k hb h9 => by
    have := served_any B f k W ((hb.block B h.lt).trans h)
    rwa [show got f 31 0 8 (k : Int) = f (k + 31) by unfold got withinB; rw [if_pos (by simp; omega)]; congr 1; omega] at this
  rest := fun W hb => (rest_any B f W ((hb.block B h.lt).trans h)).mono fun _ _ ⟨he, n, hw⟩ => ⟨he, hw ▸ below_drewN (Below.refl _ _) n⟩
  size := fun i => by obtain ⟨n, hn, h1⟩ := hf i; rw [hn]; exact itoa_le n h1
  fmt := fun W i _ _ _ => by
    obtain ⟨n, hn, h1⟩ := hf i
    rw [hn]
    refine (Tryz.FormatInt_small n h1 W).mono fun e w' ⟨he, hw⟩ => ⟨?_, hw ▸ Below.refl _ _⟩
    rw [he, ← itoa_small n h1]
    rfl

theorem small_zero : Small zero := fun i => ⟨0, rfl, by decide⟩
theorem small_aw : Small awF := fun i => by
  unfold awF Tally.put
  by_cases h : i = 40
  · exact ⟨1, by rw [if_pos h]; rfl, by decide⟩
  · rw [if_neg h]
    by_cases h2 : i = 41
    · exact ⟨1, by rw [if_pos h2]; rfl, by decide⟩
    · exact ⟨0, by rw [if_neg h2]; rfl, by decide⟩
theorem text_zero : textL zero = [] := by decide +kernel
theorem text_aw : textL awF = [105, 100, 108, 101, 32, 49, 10, 116, 105, 99, 107, 115, 32, 49, 10] := by decide +kernel

set_option maxRecDepth 100000 in
set_option maxHeartbeats 1000000 in
theorem awake_any (w : World) : Calls Tryz.prog 6 #[] w fun e w' => e = .returned (.bool true) ∧ Below w.heap.size w w' := by
  go_enter Tryz.func6, Tryz.ntmps6
  go_wp2_with fail
  refine (tallyOf 1 _ _ (Blk.new w _ _)).mono ?_
  rintro e w1 ⟨B, rfl, t1, p1⟩
  have ht := textW _ awF w1 (says_small B awF w1 t1 small_aw)
  rw [text_aw] at ht
  have q1 : Below w.heap.size w w1 := ((Below.refl _ _).alloc (Nat.le_refl _) _).trans (p1.mono (by simp))
  replace q1 := Lib.hid q1
  clear t1 p1
  go_wp2_with fail
  refine ht.mono ?_
  rintro e w2 ⟨rfl, p2⟩
  go_wp2
  go_ret
  exact ⟨rfl, q1.out.trans (p2.mono q1.out.size)⟩
end Go.Proofs.YteejogoiikmlgaaGreatDoor.Serv
