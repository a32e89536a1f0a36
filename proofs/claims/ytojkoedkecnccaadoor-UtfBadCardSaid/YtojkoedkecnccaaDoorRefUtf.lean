/-
  The document's answer of layer 3, as printed: what Rune, Bad and Count come to, in the words of the plain laws of runes. The text is shorter than 2^47 bytes.
-/
import Derived.Test.YtojkoedkecnccaaDoorPUtfBadx
import Derived.Test.YtojkoedkecnccaaDoorUtf
namespace Go.Proofs.YtojkoedkecnccaaDoor.RefUtf
open Go.RowKit Go.Proofs.YtojkoedkecnccaaDoorW.PrintWords Go.Proofs.YtojkoedkecnccaaDoor.Utx Go.Proofs.YtojkoedkecnccaaDoor.Utf Go.Proofs.YtojkoedkecnccaaDoor.PUtfBad
set_option linter.unusedVariables false
set_option linter.unusedSimpArgs false

theorem bt_by (s : ByteArray) (p : Nat) (h : p < s.size) : bt s (p : Int) = (by' s p : Int) := by
  have e : s.get! p = s[p] := by simp [ByteArray.get!, getElem!_pos, h]; rfl
  simp [bt, h, by', e]

theorem by_lt (s : ByteArray) (p : Nat) : by' s p < 256 := UInt8.toNat_lt _

theorem wrap_small (x : Int) (h0 : -1000000000000000 ≤ x) (h1 : x ≤ 1000000000000000) : wrap64 x = x := by unfold wrap64; omega

theorem more_eq (s : ByteArray) (p : Nat) :
    concourseref03_more.f s (p : Int) = some (if p < s.size ∧ 128 ≤ by' s p ∧ by' s p ≤ 191 then ((by' s p : Int) - 128, true) else (0, false)) := by
  unfold concourseref03_more.f
  by_cases h : p < s.size
  · rw [if_neg (by omega), if_pos (by omega), if_pos (by omega), bt_by s p h]
    have hb := by_lt s p
    by_cases h1 : (by' s p : Int) < 128
    · rw [if_pos h1, if_neg (by omega)]
    · rw [if_neg h1]
      by_cases h2 : (by' s p : Int) > 191
      · rw [if_pos h2, if_neg (by omega)]
      · rw [if_neg h2, if_pos ⟨h, by omega, by omega⟩, wrap_small (by' s p : Int) (by omega) (by omega), wrap_small _ (by omega) (by omega)]
  · rw [if_pos (by omega), if_neg (by omega)]

theorem l0_step (k : Nat) (s : ByteArray) (p j : Nat) (x6 x7 x8 : Int) (hp : p ≤ 140737488351232) (hj : j < 10) (h6 : 0 ≤ x6) (h6' : x6 ≤ 10000000) (h : (j : Int) < x7) :
    concourseref03_Rune.l0 (k + 1) s p x6 x7 x8 j = if p + j < s.size ∧ 128 ≤ by' s (p + j) ∧ by' s (p + j) ≤ 191 then concourseref03_Rune.l0 k s p (x6 * 64 + ((by' s (p + j) : Int) - 128)) x7 x8 ((j + 1 : Nat) : Int) else some 0 := by
  have hb := by_lt s (p + j)
  have e : ((p : Int) + (j : Int)) = ((p + j : Nat) : Int) := by omega
  simp only [concourseref03_Rune.l0]
  rw [if_pos h, wrap_small ((p : Int) + j) (by omega) (by omega), e, more_eq]
  by_cases hc : p + j < s.size ∧ 128 ≤ by' s (p + j) ∧ by' s (p + j) ≤ 191
  · rw [if_pos hc, if_pos hc]
    simp only [Option.bind_some, if_true]
    rw [wrap_small (x6 * 64) (by omega) (by omega), wrap_small (x6 * 64 + _) (by omega) (by omega), wrap_small ((j : Int) + 1) (by omega) (by omega)]
    rfl
  · rw [if_neg hc, if_neg hc]
    simp

theorem l0_end (k : Nat) (s : ByteArray) (p j : Int) (x6 x7 x8 : Int) (h : ¬ j < x7) :
    concourseref03_Rune.l0 (k + 1) s p x6 x7 x8 j = some (if x6 < x8 ∨ 1114112 ≤ x6 ∨ (55296 ≤ x6 ∧ x6 < 57344) then 0 else x7) := by
  simp only [concourseref03_Rune.l0]
  rw [if_neg h]
  by_cases h1 : x6 < x8
  · rw [if_pos h1, if_pos (by omega)]
  · rw [if_neg h1]
    by_cases h2 : x6 ≥ 1114112
    · rw [if_pos h2, if_pos (by omega)]
    · rw [if_neg h2]
      by_cases h3 : x6 ≥ 55296
      · rw [if_pos h3]
        by_cases h4 : x6 < 57344
        · rw [if_pos h4, if_pos (by omega)]
        · rw [if_neg h4, if_neg (by omega)]
      · rw [if_neg h3, if_neg (by omega)]

theorem tail_plain (k : Nat) (s : ByteArray) (p x5 x6 x7 x8 : Int) (h : x5 < 224 ∨ 248 ≤ x5) : concourseref03_Rune.j1 (k + 5) s p x5 x6 x7 x8 = concourseref03_Rune.l0 k s p x6 x7 x8 1 := by
  by_cases h1 : x5 ≥ 224
  · rw [concourseref03_Rune.j1, if_pos h1, concourseref03_Rune.j2, if_neg (by simp; omega), concourseref03_Rune.j3, if_pos (by omega), concourseref03_Rune.j4, if_neg (by simp; omega), concourseref03_Rune.j5]
  · rw [concourseref03_Rune.j1, if_neg h1, concourseref03_Rune.j2, if_neg (by simp), concourseref03_Rune.j3, if_neg (by omega), concourseref03_Rune.j4, if_neg (by simp), concourseref03_Rune.j5]
theorem tail_three (k : Nat) (s : ByteArray) (p x5 x6 x7 x8 : Int) (h : 224 ≤ x5) (h' : x5 < 240) : concourseref03_Rune.j1 (k + 5) s p x5 x6 x7 x8 = concourseref03_Rune.l0 k s p (x5 - 224) 3 2048 1 := by
  rw [concourseref03_Rune.j1, if_pos h, concourseref03_Rune.j2, if_pos (decide_eq_true h'), concourseref03_Rune.j3, if_neg (by omega), concourseref03_Rune.j4, if_neg (by simp), concourseref03_Rune.j5, wrap_small _ (by omega) (by omega)]
theorem tail_four (k : Nat) (s : ByteArray) (p x5 x6 x7 x8 : Int) (h : 240 ≤ x5) (h' : x5 < 248) : concourseref03_Rune.j1 (k + 5) s p x5 x6 x7 x8 = concourseref03_Rune.l0 k s p (x5 - 240) 4 65536 1 := by
  rw [concourseref03_Rune.j1, if_pos (by omega), concourseref03_Rune.j2, if_neg (by simp; omega), concourseref03_Rune.j3, if_pos h, concourseref03_Rune.j4, if_pos (decide_eq_true h'), concourseref03_Rune.j5, wrap_small _ (by omega) (by omega)]
theorem j0_two (k : Nat) (s : ByteArray) (p x5 x6 x7 x8 : Int) (h : 192 ≤ x5) (h' : x5 < 224) : concourseref03_Rune.j0 (k + 6) s p x5 x6 x7 x8 true = concourseref03_Rune.l0 k s p (x5 - 192) 2 128 1 := by
  rw [concourseref03_Rune.j0, if_pos rfl, tail_plain _ _ _ _ _ _ _ (Or.inl h'), wrap_small _ (by omega) (by omega)]
theorem j0_rest (k : Nat) (s : ByteArray) (p x5 x6 x7 x8 : Int) : concourseref03_Rune.j0 (k + 6) s p x5 x6 x7 x8 false = concourseref03_Rune.j1 (k + 5) s p x5 x6 x7 x8 := by
  rw [concourseref03_Rune.j0, if_neg (by simp)]

theorem rune_eq (k : Nat) (s : ByteArray) (p : Nat) (hs : s.size ≤ 140737488351232) (hp : p < s.size) : concourseref03_Rune.f (k + 11) s p = some (runeAt s p : Int) := by
  have h0 := by_lt s p
  have h1 := by_lt s (p + 1)
  have h2 := by_lt s (p + 2)
  have h3 := by_lt s (p + 3)
  unfold concourseref03_Rune.f
  rw [if_pos (by omega), if_pos (by omega), bt_by s p hp, wrap_small _ (by omega) (by omega)]
  unfold runeAt
  have k1 : p + 1 < s.size ↔ 1 < s.size - p := by omega
  have k2 : p + 2 < s.size ↔ 2 < s.size - p := by omega
  have k3 : p + 3 < s.size ↔ 3 < s.size - p := by omega
  have st := fun k j x6 x7 x8 => l0_step k s p j x6 x7 x8 (by omega)
  generalize s.size - p = n at k1 k2 k3
  by_cases c0 : by' s p < 128
  · rw [if_pos (by omega)]; simp [runeN, c0]
  rw [if_neg (by omega)]
  by_cases c1 : 192 ≤ by' s p ∧ by' s p < 224
  · rw [if_pos (by omega)]
    rw [decide_eq_true (by omega), j0_two (k + 5) _ _ _ _ _ _ (by omega) (by omega)]
    rw [show (1 : Int) = ((1 : Nat) : Int) from rfl, st _ 1 _ _ _ (by omega) (by omega) (by omega) (by omega)]
    simp only [runeN, if_neg c0, if_pos c1]
    by_cases e1 : p + 1 < s.size ∧ 128 ≤ by' s (p + 1) ∧ by' s (p + 1) ≤ 191
    · rw [if_pos e1, if_pos ⟨k1.1 e1.1, e1.2⟩, l0_end _ _ _ _ _ _ _ (by omega)]
      by_cases e4 : (by' s p - 192) * 64 + (by' s (p + 1) - 128) < 128
      · rw [if_pos e4, if_pos (by omega)]; rfl
      · rw [if_neg e4, if_neg (by omega)]; rfl
    · rw [if_neg e1, if_neg (fun h => e1 ⟨k1.2 h.1, h.2⟩)]; rfl
  by_cases c2 : 224 ≤ by' s p ∧ by' s p < 240
  · rw [if_pos (by omega)]
    rw [decide_eq_false (by omega), j0_rest (k + 5), tail_three _ _ _ _ _ _ _ (by omega) (by omega)]
    rw [show (1 : Int) = ((1 : Nat) : Int) from rfl, st _ 1 _ _ _ (by omega) (by omega) (by omega) (by omega)]
    simp only [runeN, if_neg c0, if_neg c1, if_pos c2]
    by_cases e1 : p + 1 < s.size ∧ 128 ≤ by' s (p + 1) ∧ by' s (p + 1) ≤ 191
    · rw [if_pos e1, st _ 2 _ _ _ (by omega) (by omega) (by omega) (by omega)]
      by_cases e2 : p + 2 < s.size ∧ 128 ≤ by' s (p + 2) ∧ by' s (p + 2) ≤ 191
      · rw [if_pos e2, if_pos ⟨⟨k1.1 e1.1, e1.2⟩, ⟨k2.1 e2.1, e2.2⟩⟩, l0_end _ _ _ _ _ _ _ (by omega)]
        by_cases e4 : (by' s p - 224) * 4096 + (by' s (p + 1) - 128) * 64 + (by' s (p + 2) - 128) < 2048 ∨ (55296 ≤ (by' s p - 224) * 4096 + (by' s (p + 1) - 128) * 64 + (by' s (p + 2) - 128) ∧ (by' s p - 224) * 4096 + (by' s (p + 1) - 128) * 64 + (by' s (p + 2) - 128) < 57344)
        · rw [if_pos e4, if_pos (by omega)]; rfl
        · rw [if_neg e4, if_neg (by omega)]; rfl
      · rw [if_neg e2, if_neg (fun h => e2 ⟨k2.2 h.2.1, h.2.2⟩)]; rfl
    · rw [if_neg e1, if_neg (fun h => e1 ⟨k1.2 h.1.1, h.1.2⟩)]; rfl
  by_cases c3 : 240 ≤ by' s p ∧ by' s p < 248
  · rw [if_pos (by omega)]
    rw [decide_eq_false (by omega), j0_rest (k + 5), tail_four _ _ _ _ _ _ _ (by omega) (by omega)]
    rw [show (1 : Int) = ((1 : Nat) : Int) from rfl, st _ 1 _ _ _ (by omega) (by omega) (by omega) (by omega)]
    simp only [runeN, if_neg c0, if_neg c1, if_neg c2, if_pos c3]
    by_cases e1 : p + 1 < s.size ∧ 128 ≤ by' s (p + 1) ∧ by' s (p + 1) ≤ 191
    · rw [if_pos e1, st _ 2 _ _ _ (by omega) (by omega) (by omega) (by omega)]
      by_cases e2 : p + 2 < s.size ∧ 128 ≤ by' s (p + 2) ∧ by' s (p + 2) ≤ 191
      · rw [if_pos e2, st _ 3 _ _ _ (by omega) (by omega) (by omega) (by omega)]
        by_cases e3 : p + 3 < s.size ∧ 128 ≤ by' s (p + 3) ∧ by' s (p + 3) ≤ 191
        · rw [if_pos e3, if_pos ⟨⟨k1.1 e1.1, e1.2⟩, ⟨k2.1 e2.1, e2.2⟩, ⟨k3.1 e3.1, e3.2⟩⟩, l0_end _ _ _ _ _ _ _ (by omega)]
          by_cases e4 : (by' s p - 240) * 262144 + (by' s (p + 1) - 128) * 4096 + (by' s (p + 2) - 128) * 64 + (by' s (p + 3) - 128) < 65536 ∨ 1114112 ≤ (by' s p - 240) * 262144 + (by' s (p + 1) - 128) * 4096 + (by' s (p + 2) - 128) * 64 + (by' s (p + 3) - 128)
          · rw [if_pos e4, if_pos (by omega)]; rfl
          · rw [if_neg e4, if_neg (by omega)]; rfl
        · rw [if_neg e3, if_neg (fun h => e3 ⟨k3.2 h.2.2.1, h.2.2.2⟩)]; rfl
      · rw [if_neg e2, if_neg (fun h => e2 ⟨k2.2 h.2.1.1, h.2.1.2⟩)]; rfl
    · rw [if_neg e1, if_neg (fun h => e1 ⟨k1.2 h.1.1, h.1.2⟩)]; rfl
  · simp only [runeN, if_neg c0, if_neg c1, if_neg c2, if_neg c3]
    by_cases c4 : by' s p ≥ 192
    · rw [if_pos (by omega)]
      rw [decide_eq_false (by omega), j0_rest (k + 5), tail_plain _ _ _ _ _ _ _ (by omega)]
      rw [l0_end _ _ _ _ _ _ _ (by omega)]; rfl
    · rw [if_neg (by omega)]
      rw [j0_rest (k + 5), tail_plain _ _ _ _ _ _ _ (by omega)]
      rw [l0_end _ _ _ _ _ _ _ (by omega)]; rfl

theorem bad_l0 (s : ByteArray) (hs : s.size ≤ 140737488351232) (f : Nat) : ∀ p, p ≤ s.size → s.size ≤ p + f → concourseref03_Bad.l0 (f + 12) s p = some (match badF s f p with | none => -1 | some x => (x : Int)) := by
  induction f with
  | zero =>
    intro p h0 h1
    rw [concourseref03_Bad.l0]
    rw [if_neg (by omega)]; simp [badF]
  | succ f ih =>
    intro p h0 h1

    rw [concourseref03_Bad.l0]
    by_cases hp : p < s.size
    · rw [if_pos (by omega), show f + 12 = (f + 1) + 11 by omega, rune_eq (f + 1) s p hs hp]
      simp only [Option.bind_some, badF]
      rw [if_pos hp]
      by_cases h : runeAt s p = 0
      · rw [if_pos (by omega), if_pos h]
      · have hle := runeAt_le s p hp
        rw [if_neg (by omega), if_neg h, wrap_small _ (by omega) (by omega), show ((p : Int) + (runeAt s p : Int)) = ((p + runeAt s p : Nat) : Int) by omega, show (f + 1) + 11 = f + 12 by omega]
        exact ih _ hle (by omega)
    · rw [if_neg (by omega)]; simp only [badF]; rw [if_neg hp]

theorem bad_f (s : ByteArray) (hs : s.size ≤ 140737488351232) : concourseref03_Bad.f (s.size + 12) s = some (badZ s) := by
  unfold concourseref03_Bad.f
  have := bad_l0 s hs s.size 0 (by omega) (by omega)
  exact this

theorem count_l0 (s : ByteArray) (hs : s.size ≤ 140737488351232) (f : Nat) : ∀ p n, p ≤ s.size → s.size ≤ p + f → n ≤ p → concourseref03_Count.l0 (f + 12) s n p = some (match badF s f p with | none => ((n + countF s f p : Nat) : Int) | some x => 0) := by
  induction f with
  | zero =>
    intro p n h0 h1 hn
    rw [concourseref03_Count.l0]
    rw [if_neg (by omega)]; simp [badF, countF]
  | succ f ih =>
    intro p n h0 h1 hn

    rw [concourseref03_Count.l0]
    by_cases hp : p < s.size
    · rw [if_pos (by omega), show f + 12 = (f + 1) + 11 by omega, rune_eq (f + 1) s p hs hp]
      simp only [Option.bind_some, badF, countF]
      rw [if_pos hp, if_pos hp]
      by_cases h : runeAt s p = 0
      · rw [if_pos (by omega), if_pos h]
      · have hle := runeAt_le s p hp
        rw [if_neg (by omega), if_neg h, if_neg h, wrap_small _ (by omega) (by omega), wrap_small _ (by omega) (by omega), show ((p : Int) + (runeAt s p : Int)) = ((p + runeAt s p : Nat) : Int) by omega, show ((n : Int) + 1) = ((n + 1 : Nat) : Int) by omega, show (f + 1) + 11 = f + 12 by omega]
        rw [ih _ (n + 1) hle (by omega) (by omega)]
        cases badF s f (p + runeAt s p) with
        | none => simp only; congr 1; omega
        | some x => rfl
    · rw [if_neg (by omega)]; simp only [badF, countF]; rw [if_neg hp, if_neg hp]; simp

theorem count_f (s : ByteArray) (hs : s.size ≤ 140737488351232) : concourseref03_Count.f (s.size + 12) s = some (countZ s) := by
  unfold concourseref03_Count.f
  have h := count_l0 s hs s.size 0 0 (by omega) (by omega) (by omega)
  rw [show ((0 : Nat) : Int) = 0 from rfl] at h
  rw [h]
  unfold countZ badZ badOf countOf
  cases badF s s.size 0 with
  | none => simp
  | some x => simp only; rw [if_neg (by omega)]
end Go.Proofs.YtojkoedkecnccaaDoor.RefUtf
