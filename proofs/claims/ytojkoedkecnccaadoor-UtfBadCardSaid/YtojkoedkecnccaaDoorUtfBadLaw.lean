/-
  UtfBad: which texts are right, or at which byte they are not, and how many runes they have: the statement's walk, for every text shorter than 2^47 bytes.
-/
import Derived.Test.YtojkoedkecnccaaDoorRefUtf
import Derived.Test.YtojkoedkecnccaaDoorUtfTogether
namespace Go.Proofs.YtojkoedkecnccaaDoor.UtfBadLaw
open Go.RowKit Go.Proofs.YtojkoedkecnccaaDoorW.PrintWords Go.Proofs.YtojkoedkecnccaaDoor.Utx Go.Proofs.YtojkoedkecnccaaDoor.Utf Go.Proofs.YtojkoedkecnccaaDoor.PUtfBad Go.Proofs.YtojkoedkecnccaaDoor.RefUtf Go.Proofs.YtojkoedkecnccaaDoor.Together
set_option linter.unusedVariables false
set_option linter.unusedSimpArgs false

set_option maxHeartbeats 800000 in
theorem walk (s : ByteArray) (w : World) (ha : s.size ≤ 140737488351232) (hT : Lib.Utf8Tabs 0 1 w) :
    Calls Tryd.prog 3 #[.string s] w fun e w' => e = .returned (.bool true) ∧ Below w.heap.size w w' := by
  have hl : s.size ≤ maxLen := by unfold maxLen; omega
  have c1 := fun x h => bad_any s x hl h
  have c2 := fun x => concourseref03_Bad.calls _ s _ x (bad_f s ha)
  have c3 := fun x h => valid_any s x hl h
  have c4 := fun x h => count_any s x hl h
  have c5 := fun x => concourseref03_Count.calls _ s _ x (count_f s ha)
  have hv : Hid (validB s = decide (badZ s < 0)) := rfl
  clear hl
  generalize countZ s = n at c4 c5
  generalize badZ s = z at c1 c2 hv
  generalize validB s = b at c3 hv
  have hT' := Lib.hid hT
  clear hT
  go_enter Tryd.func3, Tryd.ntmps3
  go_wp2_with fail
  refine (c1 _ hT'.out).mono ?_
  rintro e w1 ⟨rfl, g1⟩
  have q1 := Bel.mk g1
  clear g1
  go_wp2_with fail
  refine (c2 _).mono ?_
  rintro e w2 ⟨rfl, g2⟩
  have q2 := q1.trans (Bel.mk g2.below)
  clear g2 q1
  go_wp2_with fail
  refine (c3 _ (q2.2 hT'.out)).mono ?_
  rintro e w3 ⟨rfl, g3⟩
  have q3 := q2.trans (Bel.mk g3)
  clear g3 q2
  go_wp2_with fail
  refine (c2 _).mono ?_
  rintro e w4 ⟨rfl, g4⟩
  have q4 := q3.trans (Bel.mk g4.below)
  clear g4 q3
  have hv' := hv.out
  subst hv'
  clear hv
  go_wp2_with fail
  refine (c4 _ (q4.2 hT'.out)).mono ?_
  rintro e w5 ⟨rfl, g5⟩
  have q5 := q4.trans (Bel.mk g5)
  clear g5 q4
  go_wp2_with fail
  refine (c5 _).mono ?_
  rintro e w6 ⟨rfl, g6⟩
  have q6 := q5.trans (Bel.mk g6.below)
  clear g6 q5
  go_wp2_with fail
  refine (awake_any _ (q6.2 hT'.out)).mono ?_
  rintro e w7 ⟨rfl, g7⟩
  have q7 := q6.trans (Bel.mk g7)
  clear g7 q6
  go_wp2_with fail
  go_ret
  exact ⟨rfl, q7.1⟩
end Go.Proofs.YtojkoedkecnccaaDoor.UtfBadLaw
