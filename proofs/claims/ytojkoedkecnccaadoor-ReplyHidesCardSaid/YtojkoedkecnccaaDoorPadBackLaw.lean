/-
  PadBack: what is padded is unpadded, what was unpadded is padded so, and texts of one class have one length: the statement's walk, for every two texts shorter than 2^47 bytes.
-/
import Derived.Test.YtojkoedkecnccaaDoorPadPlain
namespace Go.Proofs.YtojkoedkecnccaaDoor.PadBackLaw
open Go.RowKit Go.Proofs.YtojkoedkecnccaaDoor.Pad
set_option linter.unusedVariables false
set_option linter.unusedSimpArgs false

theorem class_of (n : Nat) : classZ (n : Int) = if n ≤ 1022 then (cls n, 0) else (0, 3) := by
  unfold classZ
  by_cases h : n ≤ 1022
  · rw [if_neg (by omega), if_neg (by omega), if_pos h]
  · rw [if_neg (by omega), if_pos (by omega), if_neg h]

set_option maxRecDepth 100000 in
set_option maxHeartbeats 800000 in
theorem walk_great (a b : ByteArray) (w : World) (ha : a.size ≤ 140737488351232) (hb : b.size ≤ 140737488351232) (h : 5000 < a.size ∨ 5000 < b.size) :
    Calls Tryd.prog 7 #[.string a, .string b] w fun e w' => e = .returned (.bool true) ∧ Below w.heap.size w w' := by
  by_cases h1 : 5000 < a.size
  · have h1' : (5000 : Int) < (a.size : Int) := by omega
    clear h
    go_enter Tryd.func7, Tryd.ntmps7
    go_wp2_with (go_at_call 19; refine (awake07 _).mono ?_; rintro e w1 ⟨rfl, g1⟩)
    go_ret
    exact ⟨rfl, g1⟩
  · have h1' : ¬ (5000 : Int) < (a.size : Int) := by omega
    have h2' : (5000 : Int) < (b.size : Int) := by omega
    clear h h1
    go_enter Tryd.func7, Tryd.ntmps7
    go_wp2_with (go_at_call 19; refine (awake07 _).mono ?_; rintro e w1 ⟨rfl, g1⟩)
    go_ret
    exact ⟨rfl, g1⟩

set_option maxRecDepth 100000 in
set_option maxHeartbeats 1600000 in
theorem walk_0_0_1 (a b : ByteArray) (w : World) (ha : a.size ≤ 5000) (hb : b.size ≤ 5000) (h1 : a.size ≤ 1022) (h2 : b.size ≤ 1022) (h3 : Padded b) :
    Calls Tryd.prog 7 #[.string a, .string b] w fun e w' => e = .returned (.bool true) ∧ Below w.heap.size w w' := by
  have cpa := fun x => pad_any a x (by omega) (by omega)
  have cca := fun x => class_any (a.size : Int) x (by omega) (by omega)
  rw [class_of, if_pos (by omega)] at cca
  have cpb := fun x => pad_any b x (by omega) (by omega)
  have ccb := fun x => class_any (b.size : Int) x (by omega) (by omega)
  rw [class_of, if_pos (by omega)] at ccb
  have sa := padF_size a (by omega)
  have sb := padF_size b (by omega)
  obtain ⟨f, f1, f2⟩ : ∃ f : Bool, (((padF a).size : Int) == ((padF b).size : Int)) = f ∧ (cls (a.size : Int) == cls (b.size : Int)) = f := ⟨_, by rw [sa, sb], rfl⟩
  clear sa sb
  have hla : (padF a).size ≤ 140737488351232 := by have := padF_size a (by omega); have := cls_room a.size (by omega); omega
  have cu := fun x => (unpad_any (padF a) x hla).1 (padF_padded a (by omega))
  rw [inner_padF a (by omega)] at cu
  clear hla
  have hin : (inner b).size ≤ 1022 := by rw [inner_size b h3]; exact h3.2.1
  have ct := fun x => (unpad_any b x (by omega)).1 h3
  have cr := fun x => pad_any (inner b) x (by omega) hin
  rw [padF_inner b h3] at cr
  generalize inner b = I at ct cr hin
  generalize padF a = P at cpa cu f1
  generalize cls (a.size : Int) = ca at cca f2
  generalize padF b = Q at cpb f1
  generalize cls (b.size : Int) = cb at ccb f2
  clear h3
  cases f
  · go_enter Tryd.func7, Tryd.ntmps7
    go_wp2_with fail
    refine (cpa _).mono ?_
    rintro e w1 ⟨rfl, g1⟩
    have q1 : Below w.heap.size w w1 := g1
    go_wp2_with fail
    refine (cpb _).mono ?_
    rintro e w2 ⟨rfl, g2⟩
    have q2 : Below w.heap.size w w2 := q1.trans (g2.mono q1.size)
    clear g2 q1
    go_wp2_with fail
    refine (cca _).mono ?_
    rintro e w3 ⟨rfl, rfl⟩
    go_wp2_with fail
    refine (ccb _).mono ?_
    rintro e w4 ⟨rfl, rfl⟩
    go_wp2_with fail
    refine (cu _).mono ?_
    rintro e w5 ⟨rfl, g5⟩
    have q5 : Below w.heap.size w w5 := q2.trans (g5.mono q2.size)
    clear g5 q2
    go_wp2_with fail
    refine (ct _).mono ?_
    rintro e w6 ⟨rfl, g6⟩
    have q6 : Below w.heap.size w w6 := q5.trans (g6.mono q5.size)
    clear g6 q5
    go_wp2_with fail
    refine (cr _).mono ?_
    rintro e w7 ⟨rfl, g7⟩
    have q7 : Below w.heap.size w w7 := q6.trans (g7.mono q6.size)
    clear g7 q6
    go_wp2_with fail
    refine (awake07 _).mono ?_
    rintro e w8 ⟨rfl, g8⟩
    have q8 : Below w.heap.size w w8 := q7.trans (g8.mono q7.size)
    clear g8 q7
    go_wp2_with fail
    go_ret
    exact ⟨rfl, q8⟩
  · go_enter Tryd.func7, Tryd.ntmps7
    go_wp2_with fail
    refine (cpa _).mono ?_
    rintro e w1 ⟨rfl, g1⟩
    have q1 : Below w.heap.size w w1 := g1
    go_wp2_with fail
    refine (cpb _).mono ?_
    rintro e w2 ⟨rfl, g2⟩
    have q2 : Below w.heap.size w w2 := q1.trans (g2.mono q1.size)
    clear g2 q1
    go_wp2_with fail
    refine (cca _).mono ?_
    rintro e w3 ⟨rfl, rfl⟩
    go_wp2_with fail
    refine (ccb _).mono ?_
    rintro e w4 ⟨rfl, rfl⟩
    go_wp2_with fail
    refine (cu _).mono ?_
    rintro e w5 ⟨rfl, g5⟩
    have q5 : Below w.heap.size w w5 := q2.trans (g5.mono q2.size)
    clear g5 q2
    go_wp2_with fail
    refine (ct _).mono ?_
    rintro e w6 ⟨rfl, g6⟩
    have q6 : Below w.heap.size w w6 := q5.trans (g6.mono q5.size)
    clear g6 q5
    go_wp2_with fail
    refine (cr _).mono ?_
    rintro e w7 ⟨rfl, g7⟩
    have q7 : Below w.heap.size w w7 := q6.trans (g7.mono q6.size)
    clear g7 q6
    go_wp2_with fail
    refine (awake07 _).mono ?_
    rintro e w8 ⟨rfl, g8⟩
    have q8 : Below w.heap.size w w8 := q7.trans (g8.mono q7.size)
    clear g8 q7
    go_wp2_with fail
    go_ret
    exact ⟨rfl, q8⟩
set_option maxRecDepth 100000 in
set_option maxHeartbeats 1600000 in
theorem walk_0_0_0 (a b : ByteArray) (w : World) (ha : a.size ≤ 5000) (hb : b.size ≤ 5000) (h1 : a.size ≤ 1022) (h2 : b.size ≤ 1022) (h3 : ¬ Padded b) :
    Calls Tryd.prog 7 #[.string a, .string b] w fun e w' => e = .returned (.bool true) ∧ Below w.heap.size w w' := by
  have cpa := fun x => pad_any a x (by omega) (by omega)
  have cca := fun x => class_any (a.size : Int) x (by omega) (by omega)
  rw [class_of, if_pos (by omega)] at cca
  have cpb := fun x => pad_any b x (by omega) (by omega)
  have ccb := fun x => class_any (b.size : Int) x (by omega) (by omega)
  rw [class_of, if_pos (by omega)] at ccb
  have sa := padF_size a (by omega)
  have sb := padF_size b (by omega)
  obtain ⟨f, f1, f2⟩ : ∃ f : Bool, (((padF a).size : Int) == ((padF b).size : Int)) = f ∧ (cls (a.size : Int) == cls (b.size : Int)) = f := ⟨_, by rw [sa, sb], rfl⟩
  clear sa sb
  have hla : (padF a).size ≤ 140737488351232 := by have := padF_size a (by omega); have := cls_room a.size (by omega); omega
  have cu := fun x => (unpad_any (padF a) x hla).1 (padF_padded a (by omega))
  rw [inner_padF a (by omega)] at cu
  clear hla
  have ct := fun x => (unpad_any b x (by omega)).2 h3
  generalize padF a = P at cpa cu f1
  generalize cls (a.size : Int) = ca at cca f2
  generalize padF b = Q at cpb f1
  generalize cls (b.size : Int) = cb at ccb f2
  clear h3
  cases f
  · go_enter Tryd.func7, Tryd.ntmps7
    go_wp2_with fail
    refine (cpa _).mono ?_
    rintro e w1 ⟨rfl, g1⟩
    have q1 : Below w.heap.size w w1 := g1
    go_wp2_with fail
    refine (cpb _).mono ?_
    rintro e w2 ⟨rfl, g2⟩
    have q2 : Below w.heap.size w w2 := q1.trans (g2.mono q1.size)
    clear g2 q1
    go_wp2_with fail
    refine (cca _).mono ?_
    rintro e w3 ⟨rfl, rfl⟩
    go_wp2_with fail
    refine (ccb _).mono ?_
    rintro e w4 ⟨rfl, rfl⟩
    go_wp2_with fail
    refine (cu _).mono ?_
    rintro e w5 ⟨rfl, g5⟩
    have q5 : Below w.heap.size w w5 := q2.trans (g5.mono q2.size)
    clear g5 q2
    go_wp2_with fail
    refine (ct _).mono ?_
    rintro e w6 ⟨rfl, g6⟩
    have q6 : Below w.heap.size w w6 := q5.trans (g6.mono q5.size)
    clear g6 q5
    go_wp2_with fail
    refine (awake07 _).mono ?_
    rintro e w8 ⟨rfl, g8⟩
    have q8 : Below w.heap.size w w8 := q6.trans (g8.mono q6.size)
    clear g8 q6
    go_wp2_with fail
    go_ret
    exact ⟨rfl, q8⟩
  · go_enter Tryd.func7, Tryd.ntmps7
    go_wp2_with fail
    refine (cpa _).mono ?_
    rintro e w1 ⟨rfl, g1⟩
    have q1 : Below w.heap.size w w1 := g1
    go_wp2_with fail
    refine (cpb _).mono ?_
    rintro e w2 ⟨rfl, g2⟩
    have q2 : Below w.heap.size w w2 := q1.trans (g2.mono q1.size)
    clear g2 q1
    go_wp2_with fail
    refine (cca _).mono ?_
    rintro e w3 ⟨rfl, rfl⟩
    go_wp2_with fail
    refine (ccb _).mono ?_
    rintro e w4 ⟨rfl, rfl⟩
    go_wp2_with fail
    refine (cu _).mono ?_
    rintro e w5 ⟨rfl, g5⟩
    have q5 : Below w.heap.size w w5 := q2.trans (g5.mono q2.size)
    clear g5 q2
    go_wp2_with fail
    refine (ct _).mono ?_
    rintro e w6 ⟨rfl, g6⟩
    have q6 : Below w.heap.size w w6 := q5.trans (g6.mono q5.size)
    clear g6 q5
    go_wp2_with fail
    refine (awake07 _).mono ?_
    rintro e w8 ⟨rfl, g8⟩
    have q8 : Below w.heap.size w w8 := q6.trans (g8.mono q6.size)
    clear g8 q6
    go_wp2_with fail
    go_ret
    exact ⟨rfl, q8⟩
set_option maxRecDepth 100000 in
set_option maxHeartbeats 1600000 in
theorem walk_0_3_1 (a b : ByteArray) (w : World) (ha : a.size ≤ 5000) (hb : b.size ≤ 5000) (h1 : a.size ≤ 1022) (h2 : 1022 < b.size) (h3 : Padded b) :
    Calls Tryd.prog 7 #[.string a, .string b] w fun e w' => e = .returned (.bool true) ∧ Below w.heap.size w w' := by
  have cpa := fun x => pad_any a x (by omega) (by omega)
  have cca := fun x => class_any (a.size : Int) x (by omega) (by omega)
  rw [class_of, if_pos (by omega)] at cca
  have cpb := fun x => pad_long b x (by omega) (by omega)
  have ccb := fun x => class_any (b.size : Int) x (by omega) (by omega)
  rw [class_of, if_neg (by omega)] at ccb
  have hla : (padF a).size ≤ 140737488351232 := by have := padF_size a (by omega); have := cls_room a.size (by omega); omega
  have cu := fun x => (unpad_any (padF a) x hla).1 (padF_padded a (by omega))
  rw [inner_padF a (by omega)] at cu
  clear hla
  have hin : (inner b).size ≤ 1022 := by rw [inner_size b h3]; exact h3.2.1
  have ct := fun x => (unpad_any b x (by omega)).1 h3
  have cr := fun x => pad_any (inner b) x (by omega) hin
  rw [padF_inner b h3] at cr
  generalize inner b = I at ct cr hin
  generalize padF a = P at cpa cu
  generalize cls (a.size : Int) = ca at cca
  clear h3
  go_enter Tryd.func7, Tryd.ntmps7
  go_wp2_with fail
  refine (cpa _).mono ?_
  rintro e w1 ⟨rfl, g1⟩
  have q1 : Below w.heap.size w w1 := g1
  go_wp2_with fail
  refine (cpb _).mono ?_
  rintro e w2 ⟨rfl, g2⟩
  have q2 : Below w.heap.size w w2 := q1.trans (g2.mono q1.size)
  clear g2 q1
  go_wp2_with fail
  refine (cca _).mono ?_
  rintro e w3 ⟨rfl, rfl⟩
  go_wp2_with fail
  refine (ccb _).mono ?_
  rintro e w4 ⟨rfl, rfl⟩
  go_wp2_with fail
  refine (cu _).mono ?_
  rintro e w5 ⟨rfl, g5⟩
  have q5 : Below w.heap.size w w5 := q2.trans (g5.mono q2.size)
  clear g5 q2
  go_wp2_with fail
  refine (ct _).mono ?_
  rintro e w6 ⟨rfl, g6⟩
  have q6 : Below w.heap.size w w6 := q5.trans (g6.mono q5.size)
  clear g6 q5
  go_wp2_with fail
  refine (cr _).mono ?_
  rintro e w7 ⟨rfl, g7⟩
  have q7 : Below w.heap.size w w7 := q6.trans (g7.mono q6.size)
  clear g7 q6
  go_wp2_with fail
  refine (awake07 _).mono ?_
  rintro e w8 ⟨rfl, g8⟩
  have q8 : Below w.heap.size w w8 := q7.trans (g8.mono q7.size)
  clear g8 q7
  go_wp2_with fail
  go_ret
  exact ⟨rfl, q8⟩
set_option maxRecDepth 100000 in
set_option maxHeartbeats 1600000 in
theorem walk_0_3_0 (a b : ByteArray) (w : World) (ha : a.size ≤ 5000) (hb : b.size ≤ 5000) (h1 : a.size ≤ 1022) (h2 : 1022 < b.size) (h3 : ¬ Padded b) :
    Calls Tryd.prog 7 #[.string a, .string b] w fun e w' => e = .returned (.bool true) ∧ Below w.heap.size w w' := by
  have cpa := fun x => pad_any a x (by omega) (by omega)
  have cca := fun x => class_any (a.size : Int) x (by omega) (by omega)
  rw [class_of, if_pos (by omega)] at cca
  have cpb := fun x => pad_long b x (by omega) (by omega)
  have ccb := fun x => class_any (b.size : Int) x (by omega) (by omega)
  rw [class_of, if_neg (by omega)] at ccb
  have hla : (padF a).size ≤ 140737488351232 := by have := padF_size a (by omega); have := cls_room a.size (by omega); omega
  have cu := fun x => (unpad_any (padF a) x hla).1 (padF_padded a (by omega))
  rw [inner_padF a (by omega)] at cu
  clear hla
  have ct := fun x => (unpad_any b x (by omega)).2 h3
  generalize padF a = P at cpa cu
  generalize cls (a.size : Int) = ca at cca
  clear h3
  go_enter Tryd.func7, Tryd.ntmps7
  go_wp2_with fail
  refine (cpa _).mono ?_
  rintro e w1 ⟨rfl, g1⟩
  have q1 : Below w.heap.size w w1 := g1
  go_wp2_with fail
  refine (cpb _).mono ?_
  rintro e w2 ⟨rfl, g2⟩
  have q2 : Below w.heap.size w w2 := q1.trans (g2.mono q1.size)
  clear g2 q1
  go_wp2_with fail
  refine (cca _).mono ?_
  rintro e w3 ⟨rfl, rfl⟩
  go_wp2_with fail
  refine (ccb _).mono ?_
  rintro e w4 ⟨rfl, rfl⟩
  go_wp2_with fail
  refine (cu _).mono ?_
  rintro e w5 ⟨rfl, g5⟩
  have q5 : Below w.heap.size w w5 := q2.trans (g5.mono q2.size)
  clear g5 q2
  go_wp2_with fail
  refine (ct _).mono ?_
  rintro e w6 ⟨rfl, g6⟩
  have q6 : Below w.heap.size w w6 := q5.trans (g6.mono q5.size)
  clear g6 q5
  go_wp2_with fail
  refine (awake07 _).mono ?_
  rintro e w8 ⟨rfl, g8⟩
  have q8 : Below w.heap.size w w8 := q6.trans (g8.mono q6.size)
  clear g8 q6
  go_wp2_with fail
  go_ret
  exact ⟨rfl, q8⟩
set_option maxRecDepth 100000 in
set_option maxHeartbeats 1600000 in
theorem walk_3_0_1 (a b : ByteArray) (w : World) (ha : a.size ≤ 5000) (hb : b.size ≤ 5000) (h1 : 1022 < a.size) (h2 : b.size ≤ 1022) (h3 : Padded b) :
    Calls Tryd.prog 7 #[.string a, .string b] w fun e w' => e = .returned (.bool true) ∧ Below w.heap.size w w' := by
  have cpa := fun x => pad_long a x (by omega) (by omega)
  have cca := fun x => class_any (a.size : Int) x (by omega) (by omega)
  rw [class_of, if_neg (by omega)] at cca
  have cpb := fun x => pad_any b x (by omega) (by omega)
  have ccb := fun x => class_any (b.size : Int) x (by omega) (by omega)
  rw [class_of, if_pos (by omega)] at ccb
  have hin : (inner b).size ≤ 1022 := by rw [inner_size b h3]; exact h3.2.1
  have ct := fun x => (unpad_any b x (by omega)).1 h3
  have cr := fun x => pad_any (inner b) x (by omega) hin
  rw [padF_inner b h3] at cr
  generalize inner b = I at ct cr hin
  generalize padF b = Q at cpb
  generalize cls (b.size : Int) = cb at ccb
  clear h3
  go_enter Tryd.func7, Tryd.ntmps7
  go_wp2_with fail
  refine (cpa _).mono ?_
  rintro e w1 ⟨rfl, g1⟩
  have q1 : Below w.heap.size w w1 := g1
  go_wp2_with fail
  refine (cpb _).mono ?_
  rintro e w2 ⟨rfl, g2⟩
  have q2 : Below w.heap.size w w2 := q1.trans (g2.mono q1.size)
  clear g2 q1
  go_wp2_with fail
  refine (cca _).mono ?_
  rintro e w3 ⟨rfl, rfl⟩
  go_wp2_with fail
  refine (ccb _).mono ?_
  rintro e w4 ⟨rfl, rfl⟩
  go_wp2_with fail
  refine (ct _).mono ?_
  rintro e w6 ⟨rfl, g6⟩
  have q6 : Below w.heap.size w w6 := q2.trans (g6.mono q2.size)
  clear g6 q2
  go_wp2_with fail
  refine (cr _).mono ?_
  rintro e w7 ⟨rfl, g7⟩
  have q7 : Below w.heap.size w w7 := q6.trans (g7.mono q6.size)
  clear g7 q6
  go_wp2_with fail
  refine (awake07 _).mono ?_
  rintro e w8 ⟨rfl, g8⟩
  have q8 : Below w.heap.size w w8 := q7.trans (g8.mono q7.size)
  clear g8 q7
  go_wp2_with fail
  go_ret
  exact ⟨rfl, q8⟩
set_option maxRecDepth 100000 in
set_option maxHeartbeats 1600000 in
theorem walk_3_0_0 (a b : ByteArray) (w : World) (ha : a.size ≤ 5000) (hb : b.size ≤ 5000) (h1 : 1022 < a.size) (h2 : b.size ≤ 1022) (h3 : ¬ Padded b) :
    Calls Tryd.prog 7 #[.string a, .string b] w fun e w' => e = .returned (.bool true) ∧ Below w.heap.size w w' := by
  have cpa := fun x => pad_long a x (by omega) (by omega)
  have cca := fun x => class_any (a.size : Int) x (by omega) (by omega)
  rw [class_of, if_neg (by omega)] at cca
  have cpb := fun x => pad_any b x (by omega) (by omega)
  have ccb := fun x => class_any (b.size : Int) x (by omega) (by omega)
  rw [class_of, if_pos (by omega)] at ccb
  have ct := fun x => (unpad_any b x (by omega)).2 h3
  generalize padF b = Q at cpb
  generalize cls (b.size : Int) = cb at ccb
  clear h3
  go_enter Tryd.func7, Tryd.ntmps7
  go_wp2_with fail
  refine (cpa _).mono ?_
  rintro e w1 ⟨rfl, g1⟩
  have q1 : Below w.heap.size w w1 := g1
  go_wp2_with fail
  refine (cpb _).mono ?_
  rintro e w2 ⟨rfl, g2⟩
  have q2 : Below w.heap.size w w2 := q1.trans (g2.mono q1.size)
  clear g2 q1
  go_wp2_with fail
  refine (cca _).mono ?_
  rintro e w3 ⟨rfl, rfl⟩
  go_wp2_with fail
  refine (ccb _).mono ?_
  rintro e w4 ⟨rfl, rfl⟩
  go_wp2_with fail
  refine (ct _).mono ?_
  rintro e w6 ⟨rfl, g6⟩
  have q6 : Below w.heap.size w w6 := q2.trans (g6.mono q2.size)
  clear g6 q2
  go_wp2_with fail
  refine (awake07 _).mono ?_
  rintro e w8 ⟨rfl, g8⟩
  have q8 : Below w.heap.size w w8 := q6.trans (g8.mono q6.size)
  clear g8 q6
  go_wp2_with fail
  go_ret
  exact ⟨rfl, q8⟩
set_option maxRecDepth 100000 in
set_option maxHeartbeats 1600000 in
theorem walk_3_3_1 (a b : ByteArray) (w : World) (ha : a.size ≤ 5000) (hb : b.size ≤ 5000) (h1 : 1022 < a.size) (h2 : 1022 < b.size) (h3 : Padded b) :
    Calls Tryd.prog 7 #[.string a, .string b] w fun e w' => e = .returned (.bool true) ∧ Below w.heap.size w w' := by
  have cpa := fun x => pad_long a x (by omega) (by omega)
  have cca := fun x => class_any (a.size : Int) x (by omega) (by omega)
  rw [class_of, if_neg (by omega)] at cca
  have cpb := fun x => pad_long b x (by omega) (by omega)
  have ccb := fun x => class_any (b.size : Int) x (by omega) (by omega)
  rw [class_of, if_neg (by omega)] at ccb
  have hin : (inner b).size ≤ 1022 := by rw [inner_size b h3]; exact h3.2.1
  have ct := fun x => (unpad_any b x (by omega)).1 h3
  have cr := fun x => pad_any (inner b) x (by omega) hin
  rw [padF_inner b h3] at cr
  generalize inner b = I at ct cr hin
  clear h3
  go_enter Tryd.func7, Tryd.ntmps7
  go_wp2_with fail
  refine (cpa _).mono ?_
  rintro e w1 ⟨rfl, g1⟩
  have q1 : Below w.heap.size w w1 := g1
  go_wp2_with fail
  refine (cpb _).mono ?_
  rintro e w2 ⟨rfl, g2⟩
  have q2 : Below w.heap.size w w2 := q1.trans (g2.mono q1.size)
  clear g2 q1
  go_wp2_with fail
  refine (cca _).mono ?_
  rintro e w3 ⟨rfl, rfl⟩
  go_wp2_with fail
  refine (ccb _).mono ?_
  rintro e w4 ⟨rfl, rfl⟩
  go_wp2_with fail
  refine (ct _).mono ?_
  rintro e w6 ⟨rfl, g6⟩
  have q6 : Below w.heap.size w w6 := q2.trans (g6.mono q2.size)
  clear g6 q2
  go_wp2_with fail
  refine (cr _).mono ?_
  rintro e w7 ⟨rfl, g7⟩
  have q7 : Below w.heap.size w w7 := q6.trans (g7.mono q6.size)
  clear g7 q6
  go_wp2_with fail
  refine (awake07 _).mono ?_
  rintro e w8 ⟨rfl, g8⟩
  have q8 : Below w.heap.size w w8 := q7.trans (g8.mono q7.size)
  clear g8 q7
  go_wp2_with fail
  go_ret
  exact ⟨rfl, q8⟩
set_option maxRecDepth 100000 in
set_option maxHeartbeats 1600000 in
theorem walk_3_3_0 (a b : ByteArray) (w : World) (ha : a.size ≤ 5000) (hb : b.size ≤ 5000) (h1 : 1022 < a.size) (h2 : 1022 < b.size) (h3 : ¬ Padded b) :
    Calls Tryd.prog 7 #[.string a, .string b] w fun e w' => e = .returned (.bool true) ∧ Below w.heap.size w w' := by
  have cpa := fun x => pad_long a x (by omega) (by omega)
  have cca := fun x => class_any (a.size : Int) x (by omega) (by omega)
  rw [class_of, if_neg (by omega)] at cca
  have cpb := fun x => pad_long b x (by omega) (by omega)
  have ccb := fun x => class_any (b.size : Int) x (by omega) (by omega)
  rw [class_of, if_neg (by omega)] at ccb
  have ct := fun x => (unpad_any b x (by omega)).2 h3
  clear h3
  go_enter Tryd.func7, Tryd.ntmps7
  go_wp2_with fail
  refine (cpa _).mono ?_
  rintro e w1 ⟨rfl, g1⟩
  have q1 : Below w.heap.size w w1 := g1
  go_wp2_with fail
  refine (cpb _).mono ?_
  rintro e w2 ⟨rfl, g2⟩
  have q2 : Below w.heap.size w w2 := q1.trans (g2.mono q1.size)
  clear g2 q1
  go_wp2_with fail
  refine (cca _).mono ?_
  rintro e w3 ⟨rfl, rfl⟩
  go_wp2_with fail
  refine (ccb _).mono ?_
  rintro e w4 ⟨rfl, rfl⟩
  go_wp2_with fail
  refine (ct _).mono ?_
  rintro e w6 ⟨rfl, g6⟩
  have q6 : Below w.heap.size w w6 := q2.trans (g6.mono q2.size)
  clear g6 q2
  go_wp2_with fail
  refine (awake07 _).mono ?_
  rintro e w8 ⟨rfl, g8⟩
  have q8 : Below w.heap.size w w8 := q6.trans (g8.mono q6.size)
  clear g8 q6
  go_wp2_with fail
  go_ret
  exact ⟨rfl, q8⟩

theorem walk (a b : ByteArray) (w : World) (ha : a.size ≤ 140737488351232) (hb : b.size ≤ 140737488351232) :
    Calls Tryd.prog 7 #[.string a, .string b] w fun e w' => e = .returned (.bool true) ∧ Below w.heap.size w w' := by
  by_cases h : 5000 < a.size ∨ 5000 < b.size
  · exact walk_great a b w ha hb h
  · by_cases h1 : a.size ≤ 1022 <;> by_cases h2 : b.size ≤ 1022 <;> by_cases h3 : Padded b
    · exact walk_0_0_1 a b w (by omega) (by omega) h1 h2 h3
    · exact walk_0_0_0 a b w (by omega) (by omega) h1 h2 h3
    · exact walk_0_3_1 a b w (by omega) (by omega) h1 (by omega) h3
    · exact walk_0_3_0 a b w (by omega) (by omega) h1 (by omega) h3
    · exact walk_3_0_1 a b w (by omega) (by omega) (by omega) h2 h3
    · exact walk_3_0_0 a b w (by omega) (by omega) (by omega) h2 h3
    · exact walk_3_3_1 a b w (by omega) (by omega) (by omega) (by omega) h3
    · exact walk_3_3_0 a b w (by omega) (by omega) (by omega) (by omega) h3
theorem walkT (a b : ByteArray) (w : World) (ha : a.size ≤ 140737488351232) (hb : b.size ≤ 140737488351232) {p : Prop} (tabs : p) :
    Calls Tryd.prog 7 #[.string a, .string b] w fun e w' => e = .returned (.bool true) ∧ Below w.heap.size w w' := walk a b w ha hb
end Go.Proofs.YtojkoedkecnccaaDoor.PadBackLaw
