/-
  PadPads: what any text is, padded, or that it is too long, and which class any length has: the statement's walk, for every text shorter than 2^47 bytes and every number.
-/
import Derived.Test.YtojkoedkecnccaaRef07
namespace Go.Proofs.Ytojkoedkecnccaa.PadPadsLaw
open Go.RowKit Go.Proofs.Ytojkoedkecnccaa.Pad
set_option linter.unusedVariables false
set_option linter.unusedSimpArgs false

theorem i64_bd {n : Int} (h : (Lit.int .i64 n).wf = true) : -9223372036854775808 ≤ n ∧ n ≤ 9223372036854775807 := by
  simpa [Lit.wf, IntKind.min, IntKind.max, IntKind.signed, IntKind.bits] using h

set_option maxRecDepth 100000 in
set_option maxHeartbeats 1000000 in
theorem walk_great (s : ByteArray) (n : Int) (w : World) (hb : 5000 < s.size) :
    Calls Try.prog 3 #[.string s, .int .i64 n] w fun e w' => e = .returned (.bool true) ∧ Below w.heap.size w w' := by
  have hb' : (5000 : Int) < (s.size : Int) := by omega
  go_enter Try.func3, Try.ntmps3
  go_wp2_with (go_at_call 5; refine (awake07 _).mono ?_; rintro e w1 ⟨rfl, g1⟩)
  go_ret
  exact ⟨rfl, g1⟩

set_option maxRecDepth 100000 in
set_option maxHeartbeats 1600000 in
theorem walk_small (s : ByteArray) (n : Int) (w : World) (hb : s.size ≤ 5000) (r : ByteArray) (m : Int) (h0 : -9223372036854775808 ≤ n) (h1 : n ≤ 9223372036854775807)
    (c1 : ∀ x, Calls Try.prog 6 #[.string s] x fun e w' => e = .returned (.tuple #[.string r, .int .i64 m]) ∧ Below x.heap.size x w')
    (c2 : ∀ x, Calls Try.prog 7 #[.string s] x fun e w' => e = .returned (.tuple #[.string r, .int .i64 m]) ∧ Below x.heap.size x w') :
    Calls Try.prog 3 #[.string s, .int .i64 n] w fun e w' => e = .returned (.bool true) ∧ Below w.heap.size w w' := by
  have hb' : (s.size : Int) ≤ 5000 := by omega
  have c3 := fun x => class_any n x h0 h1
  have c4 := fun x => classR_any n x h0 h1
  obtain ⟨z, d, hzr, hd⟩ : ∃ z d : Int, (classZ n = (z, d) ∧ clsR n = z) ∧ ((n < 0 ∧ d = 1) ∨ (1022 < n ∧ d = 3) ∨ (0 ≤ n ∧ n ≤ 1022 ∧ d = 0)) := by
    unfold classZ clsR
    by_cases a1 : n < 0
    · exact ⟨0, 1, ⟨by rw [if_pos a1], by rw [if_neg (by omega)]⟩, .inl ⟨a1, rfl⟩⟩
    · by_cases a2 : 1022 < n
      · exact ⟨0, 3, ⟨by rw [if_neg a1, if_pos a2], by rw [if_neg (by omega)]⟩, .inr (.inl ⟨a2, rfl⟩)⟩
      · exact ⟨cls n, 0, ⟨by rw [if_neg a1, if_neg a2], by rw [if_pos (by omega)]⟩, .inr (.inr ⟨by omega, by omega, rfl⟩)⟩
  rw [hzr.1] at c3
  rw [hzr.2] at c4
  clear hzr
  rcases hd with ⟨a1, rfl⟩ | ⟨a1, rfl⟩ | ⟨a0, a1, rfl⟩
  all_goals
    go_enter Try.func3, Try.ntmps3
    go_wp2_with fail
    refine (c1 _).mono ?_
    rintro e w1 ⟨rfl, g1⟩
    go_wp2_with fail
    refine (c2 _).mono ?_
    rintro e w2 ⟨rfl, g2⟩
    have q2 : Below w.heap.size w w2 := g1.trans (g2.mono g1.size)
    clear g1 g2
    go_wp2_with fail
    refine (c3 _).mono ?_
    rintro e w3 ⟨rfl, rfl⟩
    go_wp2_with fail
    refine (c4 _).mono ?_
    rintro e w4 ⟨rfl, g4⟩
    have q4 : Below w.heap.size w w4 := q2.trans (g4.mono q2.size)
    clear q2 g4
    go_wp2_with fail
    refine (most_any _).mono ?_
    rintro e w5 ⟨rfl, rfl⟩
    go_wp2_with fail
    refine (awake07 _).mono ?_
    rintro e w6 ⟨rfl, g6⟩
    have q6 : Below w.heap.size w w6 := q4.trans (g6.mono q4.size)
    clear q4 g6
    go_wp2_with fail
    go_ret
    exact ⟨rfl, q6⟩

theorem walk (s : ByteArray) (n : Int) (w : World) (hs : s.size ≤ 140737488351232) (hn : (Lit.int .i64 n).wf = true) :
    Calls Try.prog 3 #[.string s, .int .i64 n] w fun e w' => e = .returned (.bool true) ∧ Below w.heap.size w w' := by
  obtain ⟨h0, h1⟩ := i64_bd hn
  by_cases h : 5000 < s.size
  · exact walk_great s n w h
  · by_cases h3 : s.size ≤ 1022
    · exact walk_small s n w (by omega) _ _ h0 h1 (fun x => pad_any s x hs h3) (fun x => padR_fits s x h3)
    · exact walk_small s n w (by omega) _ _ h0 h1 (fun x => pad_long s x (by omega) (by omega)) (fun x => padR_long s x (by omega) (by omega))
end Go.Proofs.Ytojkoedkecnccaa.PadPadsLaw
