/-
  UtfTogether: two right texts, one behind the other, are right, their runes add up, and what is wrong in the first one is wrong in both, if not only its end is cut off: the statement, for every two texts. The card leans on the library's two tables of utf8, which it ties.
-/
import Derived.Test.YtojkoedkecnccaaDoorUtf
namespace Go.Proofs.YtojkoedkecnccaaDoor.Together
open Go.RowKit Go.Proofs.YtojkoedkecnccaaDoor.Utx Go.Proofs.YtojkoedkecnccaaDoor.Utf
set_option linter.unusedVariables false
set_option linter.unusedSimpArgs false

theorem bad_none {a : ByteArray} : badOf a = none ↔ badZ a = -1 := by
  unfold badZ
  cases badOf a with
  | none => simp
  | some p => simp
theorem bad_neg {a : ByteArray} : badZ a < 0 ↔ badOf a = none := by
  unfold badZ
  cases badOf a with
  | none => simp
  | some p => simp

theorem both_right {a b : ByteArray} (ha : badOf a = none) (hb : badOf b = none) : badOf (a ++ b) = none ∧ countOf (a ++ b) = countOf a + countOf b := by
  have hs : (a ++ b).size = a.size + b.size := ByteArray.size_append
  unfold badOf countOf
  rw [hs]
  constructor
  · rw [bad_app a b a.size (a.size + b.size) 0 (by omega) (by omega) (by omega) ha]
    unfold badOf at hb; rw [hb]; rfl
  · exact count_app a b a.size (a.size + b.size) 0 (by omega) (by omega) (by omega) ha
theorem first_right {a b : ByteArray} {y : Nat} (ha : badOf a = none) (hb : badOf b = some y) : badOf (a ++ b) = some (a.size + y) := by
  have hs : (a ++ b).size = a.size + b.size := ByteArray.size_append
  unfold badOf
  rw [hs, bad_app a b a.size (a.size + b.size) 0 (by omega) (by omega) (by omega) ha]
  unfold badOf at hb; rw [hb]; rfl
theorem first_wrong {a b : ByteArray} {x : Nat} (ha : badOf a = some x) : badOf (a ++ b) = some x ∨ a.size < x + 4 := by
  have hs : (a ++ b).size = a.size + b.size := ByteArray.size_append
  by_cases h : x + 4 ≤ a.size
  · left
    unfold badOf
    rw [hs]
    exact bad_app_some a b x a.size (a.size + b.size) 0 (by omega) (by omega) (by omega) ha h
  · right; omega

theorem count_le (s : ByteArray) (f : Nat) : ∀ p, p ≤ s.size → countF s f p ≤ s.size - p := by
  induction f with
  | zero => intro p h; simp [countF]
  | succ f ih =>
    intro p h
    simp only [countF]
    by_cases hp : p < s.size
    · rw [if_pos hp]
      have hle := runeAt_le s p hp
      by_cases h0 : runeAt s p = 0
      · rw [if_pos h0]; omega
      · rw [if_neg h0]
        have := ih (p + runeAt s p) hle
        omega
    · rw [if_neg hp]; omega

/-- what lies below stands, and the tables are laid there still -/
def Bel (w w' : World) : Prop := Below w.heap.size w w' ∧ (Lib.Utf8Tabs 0 1 w → Lib.Utf8Tabs 0 1 w')
theorem Bel.mk {w w' : World} (h : Below w.heap.size w w') : Bel w w' := ⟨h, fun t => Utf8Tabs_below t h⟩
theorem Bel.trans {a b c : World} (h : Bel a b) (k : Bel b c) : Bel a c := ⟨h.1.trans (k.1.mono h.1.size), fun t => k.2 (h.2 t)⟩

set_option maxHeartbeats 800000 in
theorem walk_right (a b : ByteArray) (w : World) (ha : a.size ≤ 140737488351232) (hb : b.size ≤ 140737488351232) (hT : Lib.Utf8Tabs 0 1 w) (h1 : badOf a = none) (h2 : badOf b = none) :
    Calls Tryd.prog 5 #[.string a, .string b] w fun e w' => e = .returned (.bool true) ∧ Below w.heap.size w w' := by
  have hs : (a ++ b).size = a.size + b.size := ByteArray.size_append
  have hla : a.size ≤ maxLen := by unfold maxLen; omega
  have hlb : b.size ≤ maxLen := by unfold maxLen; omega
  have hlab : (a ++ b).size ≤ maxLen := by unfold maxLen; omega
  have ca := fun x h => bad_any a x hla h
  have cb := fun x h => bad_any b x hlb h
  have cab := fun x h => bad_any (a ++ b) x hlab h
  have na := fun x h => count_any a x hla h
  have nb := fun x h => count_any b x hlb h
  have nab := fun x h => count_any (a ++ b) x hlab h
  obtain ⟨h3, h4⟩ := both_right h1 h2
  have la : countOf a ≤ a.size := by have := count_le a a.size 0 (by omega); unfold countOf; omega
  have lb : countOf b ≤ b.size := by have := count_le b b.size 0 (by omega); unfold countOf; omega
  rw [bad_none.1 h1] at ca
  rw [bad_none.1 h2] at cb
  rw [bad_none.1 h3] at cab
  have ea : countZ a = (countOf a : Int) := by unfold countZ; rw [if_pos (by rw [bad_neg]; exact h1)]
  have eb : countZ b = (countOf b : Int) := by unfold countZ; rw [if_pos (by rw [bad_neg]; exact h2)]
  have eab : countZ (a ++ b) = (countOf a : Int) + (countOf b : Int) := by unfold countZ; rw [if_pos (by rw [bad_neg]; exact h3), h4]; omega
  rw [ea] at na
  rw [eb] at nb
  rw [eab] at nab
  clear ea eb eab h1 h2 h3 h4 hs hla hlb hlab
  generalize countOf a = ka at na nab la
  generalize countOf b = kb at nb nab lb
  have hT' := Lib.hid hT
  clear hT
  go_enter Tryd.func5, Tryd.ntmps5
  go_wp2_with fail
  refine (ca _ hT'.out).mono ?_
  rintro e w1 ⟨rfl, g1⟩
  have q1 := Bel.mk g1
  go_wp2_with fail
  refine (cb _ (q1.2 hT'.out)).mono ?_
  rintro e w2 ⟨rfl, g2⟩
  have q2 := q1.trans (Bel.mk g2)
  clear g1 g2 q1
  go_wp2_with fail
  refine (cab _ (q2.2 hT'.out)).mono ?_
  rintro e w3 ⟨rfl, g3⟩
  have q3 := q2.trans (Bel.mk g3)
  clear g3 q2
  go_wp2_with fail
  refine (nab _ (q3.2 hT'.out)).mono ?_
  rintro e w4 ⟨rfl, g4⟩
  have q4 := q3.trans (Bel.mk g4)
  clear g4 q3
  go_wp2_with fail
  refine (na _ (q4.2 hT'.out)).mono ?_
  rintro e w5 ⟨rfl, g5⟩
  have q5 := q4.trans (Bel.mk g5)
  clear g5 q4
  go_wp2_with fail
  refine (nb _ (q5.2 hT'.out)).mono ?_
  rintro e w6 ⟨rfl, g6⟩
  have q6 := q5.trans (Bel.mk g6)
  clear g6 q5
  go_wp2_with fail
  refine (awake_any _ (q6.2 hT'.out)).mono ?_
  rintro e w7 ⟨rfl, g7⟩
  have q7 := q6.trans (Bel.mk g7)
  clear g7 q6
  go_wp2_with fail
  go_ret
  exact ⟨rfl, q7.1⟩

set_option maxHeartbeats 800000 in
theorem walk_first (a b : ByteArray) (y : Nat) (w : World) (ha : a.size ≤ 140737488351232) (hb : b.size ≤ 140737488351232) (hT : Lib.Utf8Tabs 0 1 w) (h1 : badOf a = none) (h2 : badOf b = some y) :
    Calls Tryd.prog 5 #[.string a, .string b] w fun e w' => e = .returned (.bool true) ∧ Below w.heap.size w w' := by
  have hs : (a ++ b).size = a.size + b.size := ByteArray.size_append
  have hla : a.size ≤ maxLen := by unfold maxLen; omega
  have hlb : b.size ≤ maxLen := by unfold maxLen; omega
  have hlab : (a ++ b).size ≤ maxLen := by unfold maxLen; omega
  have ca := fun x h => bad_any a x hla h
  have cb := fun x h => bad_any b x hlb h
  have cab := fun x h => bad_any (a ++ b) x hlab h
  have h3 := first_right h1 h2
  have hy : y < b.size := by have := badF_some b _ _ _ h2; omega
  rw [bad_none.1 h1] at ca
  have eb : badZ b = (y : Int) := by unfold badZ; rw [h2]
  have eab : badZ (a ++ b) = (a.size : Int) + (y : Int) := by unfold badZ; rw [h3]; simp
  rw [eb] at cb
  rw [eab] at cab
  clear eb eab h1 h2 h3 hs hla hlb hlab
  have hT' := Lib.hid hT
  clear hT
  go_enter Tryd.func5, Tryd.ntmps5
  go_wp2_with fail
  refine (ca _ hT'.out).mono ?_
  rintro e w1 ⟨rfl, g1⟩
  have q1 := Bel.mk g1
  go_wp2_with fail
  refine (cb _ (q1.2 hT'.out)).mono ?_
  rintro e w2 ⟨rfl, g2⟩
  have q2 := q1.trans (Bel.mk g2)
  clear g1 g2 q1
  go_wp2_with fail
  refine (cab _ (q2.2 hT'.out)).mono ?_
  rintro e w3 ⟨rfl, g3⟩
  have q3 := q2.trans (Bel.mk g3)
  clear g3 q2
  go_wp2_with fail
  refine (awake_any _ (q3.2 hT'.out)).mono ?_
  rintro e w7 ⟨rfl, g7⟩
  have q7 := q3.trans (Bel.mk g7)
  clear g7 q3
  go_wp2_with fail
  go_ret
  exact ⟨rfl, q7.1⟩

set_option maxHeartbeats 800000 in
theorem walk_wrong (a b : ByteArray) (x : Nat) (w : World) (ha : a.size ≤ 140737488351232) (hb : b.size ≤ 140737488351232) (hT : Lib.Utf8Tabs 0 1 w) (h1 : badOf a = some x) :
    Calls Tryd.prog 5 #[.string a, .string b] w fun e w' => e = .returned (.bool true) ∧ Below w.heap.size w w' := by
  have hs : (a ++ b).size = a.size + b.size := ByteArray.size_append
  have hla : a.size ≤ maxLen := by unfold maxLen; omega
  have hlb : b.size ≤ maxLen := by unfold maxLen; omega
  have hlab : (a ++ b).size ≤ maxLen := by unfold maxLen; omega
  have ca := fun x h => bad_any a x hla h
  have cb := fun x h => bad_any b x hlb h
  have cab := fun x h => bad_any (a ++ b) x hlab h
  have na := fun x h => count_any a x hla h
  have hx : x < a.size := by have := badF_some a _ _ _ h1; omega
  have h3 := first_wrong (b := b) h1
  have ea : badZ a = (x : Int) := by unfold badZ; rw [h1]
  have ec : countZ a = 0 := by unfold countZ; rw [if_neg (by rw [ea]; omega)]
  rw [ea] at ca
  rw [ec] at na
  have hT' := Lib.hid hT
  clear hT ea ec hs hla hlb hlab
  by_cases hsame : badOf (a ++ b) = some x
  · have eab : badZ (a ++ b) = (x : Int) := by unfold badZ; rw [hsame]
    rw [eab] at cab
    clear eab hsame h3 h1
    go_enter Tryd.func5, Tryd.ntmps5
    go_wp2_with fail
    refine (ca _ hT'.out).mono ?_
    rintro e w1 ⟨rfl, g1⟩
    have q1 := Bel.mk g1
    go_wp2_with fail
    refine (cb _ (q1.2 hT'.out)).mono ?_
    rintro e w2 ⟨rfl, g2⟩
    have q2 := q1.trans (Bel.mk g2)
    clear g1 g2 q1
    go_wp2_with fail
    refine (cab _ (q2.2 hT'.out)).mono ?_
    rintro e w3 ⟨rfl, g3⟩
    have q3 := q2.trans (Bel.mk g3)
    clear g3 q2
    go_wp2_with fail
    refine (na _ (q3.2 hT'.out)).mono ?_
    rintro e w4 ⟨rfl, g4⟩
    have q4 := q3.trans (Bel.mk g4)
    clear g4 q3
    go_wp2_with fail
    refine (awake_any _ (q4.2 hT'.out)).mono ?_
    rintro e w7 ⟨rfl, g7⟩
    have q7 := q4.trans (Bel.mk g7)
    clear g7 q4
    go_wp2_with fail
    go_ret
    exact ⟨rfl, q7.1⟩
  · have hclose : a.size < x + 4 := h3.resolve_left hsame
    have hne : badZ (a ++ b) ≠ (x : Int) := by
      intro h
      apply hsame
      unfold badZ at h
      cases hh : badOf (a ++ b) with
      | none => rw [hh] at h; simp only at h; omega
      | some p => rw [hh] at h; simp only at h; rw [show p = x by omega]
    have hne' : (badZ (a ++ b) == (x : Int)) = false := beq_eq_false_iff_ne.2 hne
    have hc1 : (a.size : Int) - (x : Int) < 4 := by omega
    generalize badZ (a ++ b) = z at cab hne'
    clear hsame h3 h1 hne
    go_enter Tryd.func5, Tryd.ntmps5
    go_wp2_with fail
    refine (ca _ hT'.out).mono ?_
    rintro e w1 ⟨rfl, g1⟩
    have q1 := Bel.mk g1
    go_wp2_with fail
    refine (cb _ (q1.2 hT'.out)).mono ?_
    rintro e w2 ⟨rfl, g2⟩
    have q2 := q1.trans (Bel.mk g2)
    clear g1 g2 q1
    go_wp2_with fail
    refine (cab _ (q2.2 hT'.out)).mono ?_
    rintro e w3 ⟨rfl, g3⟩
    have q3 := q2.trans (Bel.mk g3)
    clear g3 q2
    go_wp2_with fail
    refine (na _ (q3.2 hT'.out)).mono ?_
    rintro e w4 ⟨rfl, g4⟩
    have q4 := q3.trans (Bel.mk g4)
    clear g4 q3
    go_wp2_with fail
    refine (awake_any _ (q4.2 hT'.out)).mono ?_
    rintro e w7 ⟨rfl, g7⟩
    have q7 := q4.trans (Bel.mk g7)
    clear g7 q4
    go_wp2_with fail
    go_ret
    exact ⟨rfl, q7.1⟩

theorem walk (a b : ByteArray) (w : World) (ha : a.size ≤ 140737488351232) (hb : b.size ≤ 140737488351232) (hT : Lib.Utf8Tabs 0 1 w) :
    Calls Tryd.prog 5 #[.string a, .string b] w fun e w' => e = .returned (.bool true) ∧ Below w.heap.size w w' := by
  cases h1 : badOf a with
  | some x => exact walk_wrong a b x w ha hb hT h1
  | none =>
    cases h2 : badOf b with
    | none => exact walk_right a b w ha hb hT h1 h2
    | some y => exact walk_first a b y w ha hb hT h1 h2
end Go.Proofs.YtojkoedkecnccaaDoor.Together
