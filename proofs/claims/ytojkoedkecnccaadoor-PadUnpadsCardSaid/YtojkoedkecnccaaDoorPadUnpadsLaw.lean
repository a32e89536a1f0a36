/-
  PadUnpads: of which text any bytes are the padded one, or that of none: the statement's walk, for all bytes shorter than 2^47.
-/
import Derived.Test.YtojkoedkecnccaaDoorRef07Unpad
namespace Go.Proofs.YtojkoedkecnccaaDoor.PadUnpadsLaw
open Go.RowKit Go.Proofs.YtojkoedkecnccaaDoor.Pad
set_option linter.unusedVariables false
set_option linter.unusedSimpArgs false

set_option maxRecDepth 100000 in
set_option maxHeartbeats 1000000 in
theorem walk_great (b : ByteArray) (w : World) (hb : 5000 < b.size) :
    Calls Tryd.prog 6 #[.string b] w fun e w' => e = .returned (.bool true) ∧ Below w.heap.size w w' := by
  have hb' : (5000 : Int) < (b.size : Int) := by omega
  go_enter Tryd.func6, Tryd.ntmps6
  go_wp2_with (go_at_call 19; refine (awake07 _).mono ?_; rintro e w1 ⟨rfl, g1⟩)
  go_ret
  exact ⟨rfl, g1⟩

set_option maxRecDepth 100000 in
set_option maxHeartbeats 1000000 in
theorem walk_small (b : ByteArray) (w : World) (hb : b.size ≤ 5000) (r : ByteArray) (n : Int)
    (c1 : ∀ x, Calls Tryd.prog 20 #[.string b] x fun e w' => e = .returned (.tuple #[.string r, .int .i64 n]) ∧ Below x.heap.size x w')
    (c2 : ∀ x, Calls Tryd.prog 21 #[.string b] x fun e w' => e = .returned (.tuple #[.string r, .int .i64 n]) ∧ Below x.heap.size x w') :
    Calls Tryd.prog 6 #[.string b] w fun e w' => e = .returned (.bool true) ∧ Below w.heap.size w w' := by
  have hb' : (b.size : Int) ≤ 5000 := by omega
  go_enter Tryd.func6, Tryd.ntmps6
  go_wp2_with fail
  refine (c1 _).mono ?_
  rintro e w1 ⟨rfl, g1⟩
  go_wp2_with fail
  refine (c2 _).mono ?_
  rintro e w2 ⟨rfl, g2⟩
  have q2 : Below w.heap.size w w2 := g1.trans (g2.mono g1.size)
  clear g1 g2
  go_wp2_with fail
  refine (awake07 _).mono ?_
  rintro e w3 ⟨rfl, g3⟩
  have q3 : Below w.heap.size w w3 := q2.trans (g3.mono q2.size)
  clear q2 g3
  go_wp2_with fail
  go_ret
  exact ⟨rfl, q3⟩

theorem walk (b : ByteArray) (w : World) (hb : b.size ≤ 140737488351232) {p : Prop} (tabs : p) :
    Calls Tryd.prog 6 #[.string b] w fun e w' => e = .returned (.bool true) ∧ Below w.heap.size w w' := by
  by_cases h : 5000 < b.size
  · exact walk_great b w h
  · by_cases h3 : Padded b
    · exact walk_small b w (by omega) _ _ (fun x => (unpad_any b x hb).1 h3) (fun x => (unpadR_any b x hb).1 h3)
    · exact walk_small b w (by omega) _ _ (fun x => (unpad_any b x hb).2 h3) (fun x => (unpadR_any b x hb).2 h3)
end Go.Proofs.YtojkoedkecnccaaDoor.PadUnpadsLaw
