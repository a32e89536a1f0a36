/-
  UtfNames: which texts are names, and names are right texts: the plain law and the statement's walk, for every text shorter than 2^47 bytes.
-/
import Derived.Test.YtojkoedkecnccaaDoorPUtfNamesx
import Derived.Test.YtojkoedkecnccaaDoorUtfTogether
namespace Go.Proofs.YtojkoedkecnccaaDoor.UtfNamesLaw
open Go.RowKit Go.Proofs.YtojkoedkecnccaaDoorW.PrintWords Go.Proofs.YtojkoedkecnccaaDoor.Utx Go.Proofs.YtojkoedkecnccaaDoor.Utf Go.Proofs.YtojkoedkecnccaaDoor.PUtfNames Go.Proofs.YtojkoedkecnccaaDoor.Together
set_option linter.unusedVariables false
set_option linter.unusedSimpArgs false

theorem bt_by (s : ByteArray) (p : Nat) (h : p < s.size) : bt s (p : Int) = (by' s p : Int) := by
  have e : s.get! p = s[p] := by simp [ByteArray.get!, getElem!_pos, h]; rfl
  simp [bt, h, by', e]
theorem by_lt (s : ByteArray) (p : Nat) : by' s p < 256 := UInt8.toNat_lt _
theorem wrap_small (x : Int) (h0 : -1000000000000000 ≤ x) (h1 : x ≤ 1000000000000000) : wrap64 x = x := by unfold wrap64; omega

theorem ok_iff (p : Nat) (c : Int) : okB p c = true ↔ ((97 ≤ c ∧ c ≤ 122) ∨ (65 ≤ c ∧ c ≤ 90)) ∨ (p ≠ 0 ∧ (c = 95 ∨ (48 ≤ c ∧ c ≤ 57))) := by
  unfold okB letterB
  simp only [Bool.or_eq_true, Bool.and_eq_true, decide_eq_true_eq]

def nbF (s : ByteArray) : Nat → Nat → Bool
  | 0, _ => true
  | f + 1, p => if p < s.size then (if okB p (by' s p) = true then nbF s f (p + 1) else false) else true

theorem dec_byte (s : ByteArray) (p : Nat) (hp : p < s.size) : (by' s p < 128 ∧ Utf8.decode s p = (by' s p, 1)) ∨ (128 ≤ by' s p ∧ 128 ≤ (Utf8.decode s p).1) := by
  have e : s.get! p = s[p] := by simp [ByteArray.get!, getElem!_pos, hp]; rfl
  by_cases h : (s[p]'hp).toNat < 128
  · left
    have := decode_ascii s p hp h
    unfold by'
    rw [e]
    exact ⟨h, this⟩
  · right
    have := decode_high s p hp (by omega)
    unfold by'
    rw [e]
    exact ⟨by omega, this.1⟩

theorem name_bytes (s : ByteArray) (f : Nat) : ∀ p, s.size ≤ p + f → nameF s f p = nbF s f p := by
  induction f with
  | zero => intro p h; rfl
  | succ f ih =>
    intro p h
    simp only [nameF, nbF]
    by_cases hp : p < s.size
    · rw [if_pos hp, if_pos hp]
      rcases dec_byte s p hp with ⟨h1, h2⟩ | ⟨h1, h2⟩
      · rw [h2]
        simp only
        split
        · exact ih _ (by omega)
        · rfl
      · rw [if_neg (by rw [ok_iff]; omega), if_neg (by rw [ok_iff]; omega)]
    · rw [if_neg hp, if_neg hp]

theorem name_right (s : ByteArray) (f : Nat) : ∀ p, s.size ≤ p + f → p ≤ s.size → nbF s f p = true → badF s f p = none ∧ countF s f p = s.size - p := by
  induction f with
  | zero => intro p h h' _; exact ⟨rfl, by simp only [countF]; omega⟩
  | succ f ih =>
    intro p h h' hn
    simp only [nbF] at hn
    simp only [badF, countF]
    by_cases hp : p < s.size
    · rw [if_pos hp] at hn
      by_cases ho : okB p (by' s p) = true
      · rw [if_pos ho] at hn
        rw [ok_iff] at ho
        have hr : runeAt s p = 1 := by unfold runeAt runeN; rw [if_pos (by omega)]
        have := ih (p + 1) (by omega) (by omega) hn
        rw [if_pos hp, if_pos hp, if_neg (by omega), if_neg (by omega), hr]
        exact ⟨this.1, by omega⟩
      · rw [if_neg ho] at hn; cases hn
    · rw [if_neg hp, if_neg hp]
      exact ⟨rfl, by omega⟩

theorem name_l0 (s : ByteArray) (hs : s.size ≤ 140737488351232) (f : Nat) : ∀ p, s.size ≤ p + f → p ≤ s.size → concourseref03_Name.l0 (f + 1) s p = some (nbF s f p) := by
  induction f with
  | zero =>
    intro p h h'
    rw [concourseref03_Name.l0]
    rw [if_neg (by omega)]; rfl
  | succ f ih =>
    intro p h h'
    rw [concourseref03_Name.l0]
    simp only [nbF]
    by_cases hp : p < s.size
    · have hnext : wrap64 ((p : Int) + 1) = ((p + 1 : Nat) : Int) := by rw [wrap_small _ (by omega) (by omega)]; rfl
      have hi := ih (p + 1) (by omega) (by omega)
      rw [if_pos (by omega), if_pos (by omega), bt_by s p hp, hnext, hi, if_pos hp]
      have hz : ((p : Int) = 0) ↔ p = 0 := by omega
      have hiff := ok_iff p (by' s p)
      by_cases ho : okB p (by' s p) = true
      · rw [if_pos ho]
        rw [hiff] at ho
        repeat' split
        all_goals first | rfl | (exfalso; omega)
      · rw [if_neg ho]
        rw [hiff] at ho
        repeat' split
        all_goals first | rfl | (exfalso; omega)
    · rw [if_neg (by omega), if_neg hp]

theorem name_f (s : ByteArray) (hs : s.size ≤ 140737488351232) : concourseref03_Name.f (s.size + 2) s = some (nameB s) := by
  unfold concourseref03_Name.f nameB
  by_cases h0 : (s.size : Int) < 1
  · rw [if_pos h0, concourseref03_Name.j0, if_pos rfl, decide_eq_false (by omega : ¬ 0 < s.size)]
    simp
  · rw [if_neg h0, concourseref03_Name.j0]
    by_cases h1 : (s.size : Int) > 16
    · rw [if_pos (decide_eq_true h1), decide_eq_false (by omega : ¬ s.size ≤ 16)]; simp
    · rw [if_neg (by simpa using h1)]
      have h := name_l0 s hs s.size 0 (by omega) (by omega)
      rw [show ((0 : Nat) : Int) = 0 from rfl] at h
      rw [h, name_bytes s s.size 0 (by omega), decide_eq_true (by omega : 0 < s.size), decide_eq_true (by omega : s.size ≤ 16)]
      simp

theorem named {s : ByteArray} (h : nameB s = true) : validB s = true ∧ countZ s = s.size := by
  unfold nameB at h
  simp only [Bool.and_eq_true] at h
  rw [name_bytes s s.size 0 (by omega)] at h
  have := name_right s s.size 0 (by omega) (by omega) h.1
  have hb : badOf s = none := this.1
  have hz : badZ s < 0 := bad_neg.2 hb
  refine ⟨by unfold validB; exact decide_eq_true hz, ?_⟩
  unfold countZ
  rw [if_pos hz]
  have h2 : countOf s = s.size - 0 := this.2
  omega

set_option maxHeartbeats 800000 in
theorem walk_yes (s : ByteArray) (w : World) (ha : s.size ≤ 140737488351232) (hT : Lib.Utf8Tabs 0 1 w) (hn : nameB s = true) :
    Calls Tryd.prog 4 #[.string s] w fun e w' => e = .returned (.bool true) ∧ Below w.heap.size w w' := by
  have hl : s.size ≤ maxLen := by unfold maxLen; omega
  have c1 := fun x => name_any s x hl
  have c2 := fun x => concourseref03_Name.calls _ s _ x (name_f s ha)
  have c3 := fun x h => valid_any s x hl h
  have c4 := fun x h => count_any s x hl h
  rw [(named hn).1] at c3
  rw [(named hn).2] at c4
  rw [hn] at c1 c2
  clear hn hl
  have hT' := Lib.hid hT
  clear hT
  go_enter Tryd.func4, Tryd.ntmps4
  go_wp2_with fail
  refine (c1 _).mono ?_
  rintro e w1 ⟨rfl, g1⟩
  have q1 := Bel.mk g1
  clear g1
  go_wp2_with fail
  refine (c2 _).mono ?_
  rintro e w2 ⟨rfl, g2⟩
  have q2 := q1.trans (Bel.mk g2.below)
  clear g2 q1
  go_wp2_with fail
  refine (c1 _).mono ?_
  rintro e w3 ⟨rfl, g3⟩
  have q3 := q2.trans (Bel.mk g3)
  clear g3 q2
  go_wp2_with fail
  refine (c3 _ (q3.2 hT'.out)).mono ?_
  rintro e w4 ⟨rfl, g4⟩
  have q4 := q3.trans (Bel.mk g4)
  clear g4 q3
  go_wp2_with fail
  refine (c4 _ (q4.2 hT'.out)).mono ?_
  rintro e w5 ⟨rfl, g5⟩
  have q5 := q4.trans (Bel.mk g5)
  clear g5 q4
  go_wp2_with fail
  refine (awake_any _ (q5.2 hT'.out)).mono ?_
  rintro e w7 ⟨rfl, g7⟩
  have q7 := q5.trans (Bel.mk g7)
  clear g7 q5
  go_wp2_with fail
  go_ret
  exact ⟨rfl, q7.1⟩

set_option maxHeartbeats 800000 in
theorem walk_no (s : ByteArray) (w : World) (ha : s.size ≤ 140737488351232) (hT : Lib.Utf8Tabs 0 1 w) (hn : nameB s = false) :
    Calls Tryd.prog 4 #[.string s] w fun e w' => e = .returned (.bool true) ∧ Below w.heap.size w w' := by
  have hl : s.size ≤ maxLen := by unfold maxLen; omega
  have c1 := fun x => name_any s x hl
  have c2 := fun x => concourseref03_Name.calls _ s _ x (name_f s ha)
  rw [hn] at c1 c2
  clear hn hl
  have hT' := Lib.hid hT
  clear hT
  go_enter Tryd.func4, Tryd.ntmps4
  go_wp2_with fail
  refine (c1 _).mono ?_
  rintro e w1 ⟨rfl, g1⟩
  have q1 := Bel.mk g1
  clear g1
  go_wp2_with fail
  refine (c2 _).mono ?_
  rintro e w2 ⟨rfl, g2⟩
  have q2 := q1.trans (Bel.mk g2.below)
  clear g2 q1
  go_wp2_with fail
  refine (c1 _).mono ?_
  rintro e w3 ⟨rfl, g3⟩
  have q3 := q2.trans (Bel.mk g3)
  clear g3 q2
  go_wp2_with fail
  refine (awake_any _ (q3.2 hT'.out)).mono ?_
  rintro e w7 ⟨rfl, g7⟩
  have q7 := q3.trans (Bel.mk g7)
  clear g7 q3
  go_wp2_with fail
  go_ret
  exact ⟨rfl, q7.1⟩

theorem walk (s : ByteArray) (w : World) (ha : s.size ≤ 140737488351232) (hT : Lib.Utf8Tabs 0 1 w) :
    Calls Tryd.prog 4 #[.string s] w fun e w' => e = .returned (.bool true) ∧ Below w.heap.size w w' := by
  cases h : nameB s with
  | true => exact walk_yes s w ha hT h
  | false => exact walk_no s w ha hT h
end Go.Proofs.YtojkoedkecnccaaDoor.UtfNamesLaw
