/-
  tally: the words, and a line: the walks.
-/
import Derived.Test.YteejogoiikmlgaaGreatDoorTTallyOf
import Derived.Test.YteejogoiikmlgaaGreatDoorTBuilder
namespace Go.Proofs.YteejogoiikmlgaaGreatDoor.Serv
open Go.RowKit
set_option linter.unusedVariables false
set_option linter.unusedSimpArgs false
set_option linter.unnecessarySimpa false

def wordB : Nat → ByteArray
  | 1 => ⟨#[104, 101, 108, 108, 111]⟩
  | 2 => ⟨#[99, 97, 108, 108]⟩
  | 3 => ⟨#[111, 110, 101, 119, 97, 121]⟩
  | 4 => ⟨#[99, 97, 110, 99, 101, 108]⟩
  | 5 => ⟨#[112, 105, 110, 103]⟩
  | 6 => ⟨#[115, 99, 104, 101, 109, 97]⟩
  | 7 => ⟨#[98, 105, 110, 100]⟩
  | 8 => ⟨#[97, 100, 109, 105, 110]⟩
  | _ => ⟨#[114, 101, 112, 108, 121]⟩
def errB : Nat → ByteArray
  | 0 => ⟨#[111, 107]⟩
  | 1 => ⟨#[102, 111, 114, 109]⟩
  | 2 => ⟨#[115, 104, 111, 114, 116]⟩
  | 3 => ⟨#[108, 111, 110, 103]⟩
  | 4 => ⟨#[107, 105, 110, 100]⟩
  | 5 => ⟨#[116, 111, 107, 101, 110]⟩
  | 6 => ⟨#[110, 97, 109, 101]⟩
  | 7 => ⟨#[116, 119, 105, 99, 101]⟩
  | 8 => ⟨#[116, 121, 112, 101]⟩
  | 9 => ⟨#[116, 97, 103]⟩
  | 10 => ⟨#[100, 101, 101, 112]⟩
  | 11 => ⟨#[116, 101, 120, 116]⟩
  | 12 => ⟨#[110, 111, 110, 101]⟩
  | 13 => ⟨#[102, 117, 108, 108]⟩
  | 14 => ⟨#[113, 117, 111, 116, 97]⟩
  | 15 => ⟨#[98, 117, 115, 121]⟩
  | 16 => ⟨#[97, 117, 116, 104]⟩
  | 17 => ⟨#[115, 116, 97, 116, 101]⟩
  | 18 => ⟨#[108, 97, 116, 101]⟩
  | 19 => ⟨#[103, 111, 110, 101]⟩
  | 20 => ⟨#[114, 101, 115, 116]⟩
  | _ => ⟨#[111, 116, 104, 101, 114]⟩
theorem word_1 (w : World) : Calls Tryz.prog 35 #[.int .i64 1] w fun e w' => e = .returned (.string ⟨#[104, 101, 108, 108, 111]⟩) ∧ w = w' := by
  go_enter Tryz.func35, Tryz.ntmps35
  go_wp2
  go_ret
  exact ⟨rfl, rfl⟩
theorem word_2 (w : World) : Calls Tryz.prog 35 #[.int .i64 2] w fun e w' => e = .returned (.string ⟨#[99, 97, 108, 108]⟩) ∧ w = w' := by
  go_enter Tryz.func35, Tryz.ntmps35
  go_wp2
  go_ret
  exact ⟨rfl, rfl⟩
theorem word_3 (w : World) : Calls Tryz.prog 35 #[.int .i64 3] w fun e w' => e = .returned (.string ⟨#[111, 110, 101, 119, 97, 121]⟩) ∧ w = w' := by
  go_enter Tryz.func35, Tryz.ntmps35
  go_wp2
  go_ret
  exact ⟨rfl, rfl⟩
theorem word_4 (w : World) : Calls Tryz.prog 35 #[.int .i64 4] w fun e w' => e = .returned (.string ⟨#[99, 97, 110, 99, 101, 108]⟩) ∧ w = w' := by
  go_enter Tryz.func35, Tryz.ntmps35
  go_wp2
  go_ret
  exact ⟨rfl, rfl⟩
theorem word_5 (w : World) : Calls Tryz.prog 35 #[.int .i64 5] w fun e w' => e = .returned (.string ⟨#[112, 105, 110, 103]⟩) ∧ w = w' := by
  go_enter Tryz.func35, Tryz.ntmps35
  go_wp2
  go_ret
  exact ⟨rfl, rfl⟩
theorem word_6 (w : World) : Calls Tryz.prog 35 #[.int .i64 6] w fun e w' => e = .returned (.string ⟨#[115, 99, 104, 101, 109, 97]⟩) ∧ w = w' := by
  go_enter Tryz.func35, Tryz.ntmps35
  go_wp2
  go_ret
  exact ⟨rfl, rfl⟩
theorem word_7 (w : World) : Calls Tryz.prog 35 #[.int .i64 7] w fun e w' => e = .returned (.string ⟨#[98, 105, 110, 100]⟩) ∧ w = w' := by
  go_enter Tryz.func35, Tryz.ntmps35
  go_wp2
  go_ret
  exact ⟨rfl, rfl⟩
theorem word_8 (w : World) : Calls Tryz.prog 35 #[.int .i64 8] w fun e w' => e = .returned (.string ⟨#[97, 100, 109, 105, 110]⟩) ∧ w = w' := by
  go_enter Tryz.func35, Tryz.ntmps35
  go_wp2
  go_ret
  exact ⟨rfl, rfl⟩
theorem word_9 (w : World) : Calls Tryz.prog 35 #[.int .i64 9] w fun e w' => e = .returned (.string ⟨#[114, 101, 112, 108, 121]⟩) ∧ w = w' := by
  go_enter Tryz.func35, Tryz.ntmps35
  go_wp2
  go_ret
  exact ⟨rfl, rfl⟩
theorem word_any (k : Nat) (h1 : 1 ≤ k) (h9 : k ≤ 9) (w : World) : Calls Tryz.prog 35 #[.int .i64 k] w fun e w' => e = .returned (.string (wordB k)) ∧ w = w' := by
  obtain rfl | rfl | rfl | rfl | rfl | rfl | rfl | rfl | rfl : k = 1 ∨ k = 2 ∨ k = 3 ∨ k = 4 ∨ k = 5 ∨ k = 6 ∨ k = 7 ∨ k = 8 ∨ k = 9 := by omega
  · exact word_1 w
  · exact word_2 w
  · exact word_3 w
  · exact word_4 w
  · exact word_5 w
  · exact word_6 w
  · exact word_7 w
  · exact word_8 w
  · exact word_9 w
theorem more_11 (w : World) : Calls Tryz.prog 50 #[.int .i64 11] w fun e w' => e = .returned (.string ⟨#[116, 101, 120, 116]⟩) ∧ w = w' := by
  go_enter Tryz.func50, Tryz.ntmps50
  go_wp2
  go_ret
  exact ⟨rfl, rfl⟩
theorem more_12 (w : World) : Calls Tryz.prog 50 #[.int .i64 12] w fun e w' => e = .returned (.string ⟨#[110, 111, 110, 101]⟩) ∧ w = w' := by
  go_enter Tryz.func50, Tryz.ntmps50
  go_wp2
  go_ret
  exact ⟨rfl, rfl⟩
theorem more_13 (w : World) : Calls Tryz.prog 50 #[.int .i64 13] w fun e w' => e = .returned (.string ⟨#[102, 117, 108, 108]⟩) ∧ w = w' := by
  go_enter Tryz.func50, Tryz.ntmps50
  go_wp2
  go_ret
  exact ⟨rfl, rfl⟩
theorem more_14 (w : World) : Calls Tryz.prog 50 #[.int .i64 14] w fun e w' => e = .returned (.string ⟨#[113, 117, 111, 116, 97]⟩) ∧ w = w' := by
  go_enter Tryz.func50, Tryz.ntmps50
  go_wp2
  go_ret
  exact ⟨rfl, rfl⟩
theorem more_15 (w : World) : Calls Tryz.prog 50 #[.int .i64 15] w fun e w' => e = .returned (.string ⟨#[98, 117, 115, 121]⟩) ∧ w = w' := by
  go_enter Tryz.func50, Tryz.ntmps50
  go_wp2
  go_ret
  exact ⟨rfl, rfl⟩
theorem more_16 (w : World) : Calls Tryz.prog 50 #[.int .i64 16] w fun e w' => e = .returned (.string ⟨#[97, 117, 116, 104]⟩) ∧ w = w' := by
  go_enter Tryz.func50, Tryz.ntmps50
  go_wp2
  go_ret
  exact ⟨rfl, rfl⟩
theorem more_17 (w : World) : Calls Tryz.prog 50 #[.int .i64 17] w fun e w' => e = .returned (.string ⟨#[115, 116, 97, 116, 101]⟩) ∧ w = w' := by
  go_enter Tryz.func50, Tryz.ntmps50
  go_wp2
  go_ret
  exact ⟨rfl, rfl⟩
theorem more_18 (w : World) : Calls Tryz.prog 50 #[.int .i64 18] w fun e w' => e = .returned (.string ⟨#[108, 97, 116, 101]⟩) ∧ w = w' := by
  go_enter Tryz.func50, Tryz.ntmps50
  go_wp2
  go_ret
  exact ⟨rfl, rfl⟩
theorem more_19 (w : World) : Calls Tryz.prog 50 #[.int .i64 19] w fun e w' => e = .returned (.string ⟨#[103, 111, 110, 101]⟩) ∧ w = w' := by
  go_enter Tryz.func50, Tryz.ntmps50
  go_wp2
  go_ret
  exact ⟨rfl, rfl⟩
theorem more_20 (w : World) : Calls Tryz.prog 50 #[.int .i64 20] w fun e w' => e = .returned (.string ⟨#[114, 101, 115, 116]⟩) ∧ w = w' := by
  go_enter Tryz.func50, Tryz.ntmps50
  go_wp2
  go_ret
  exact ⟨rfl, rfl⟩
theorem err_1 (w : World) : Calls Tryz.prog 36 #[.int .i64 1] w fun e w' => e = .returned (.string ⟨#[102, 111, 114, 109]⟩) ∧ w = w' := by
  go_enter Tryz.func36, Tryz.ntmps36
  go_wp2
  go_ret
  exact ⟨rfl, rfl⟩
theorem err_2 (w : World) : Calls Tryz.prog 36 #[.int .i64 2] w fun e w' => e = .returned (.string ⟨#[115, 104, 111, 114, 116]⟩) ∧ w = w' := by
  go_enter Tryz.func36, Tryz.ntmps36
  go_wp2
  go_ret
  exact ⟨rfl, rfl⟩
theorem err_3 (w : World) : Calls Tryz.prog 36 #[.int .i64 3] w fun e w' => e = .returned (.string ⟨#[108, 111, 110, 103]⟩) ∧ w = w' := by
  go_enter Tryz.func36, Tryz.ntmps36
  go_wp2
  go_ret
  exact ⟨rfl, rfl⟩
theorem err_4 (w : World) : Calls Tryz.prog 36 #[.int .i64 4] w fun e w' => e = .returned (.string ⟨#[107, 105, 110, 100]⟩) ∧ w = w' := by
  go_enter Tryz.func36, Tryz.ntmps36
  go_wp2
  go_ret
  exact ⟨rfl, rfl⟩
theorem err_5 (w : World) : Calls Tryz.prog 36 #[.int .i64 5] w fun e w' => e = .returned (.string ⟨#[116, 111, 107, 101, 110]⟩) ∧ w = w' := by
  go_enter Tryz.func36, Tryz.ntmps36
  go_wp2
  go_ret
  exact ⟨rfl, rfl⟩
theorem err_6 (w : World) : Calls Tryz.prog 36 #[.int .i64 6] w fun e w' => e = .returned (.string ⟨#[110, 97, 109, 101]⟩) ∧ w = w' := by
  go_enter Tryz.func36, Tryz.ntmps36
  go_wp2
  go_ret
  exact ⟨rfl, rfl⟩
theorem err_7 (w : World) : Calls Tryz.prog 36 #[.int .i64 7] w fun e w' => e = .returned (.string ⟨#[116, 119, 105, 99, 101]⟩) ∧ w = w' := by
  go_enter Tryz.func36, Tryz.ntmps36
  go_wp2
  go_ret
  exact ⟨rfl, rfl⟩
theorem err_8 (w : World) : Calls Tryz.prog 36 #[.int .i64 8] w fun e w' => e = .returned (.string ⟨#[116, 121, 112, 101]⟩) ∧ w = w' := by
  go_enter Tryz.func36, Tryz.ntmps36
  go_wp2
  go_ret
  exact ⟨rfl, rfl⟩
theorem err_9 (w : World) : Calls Tryz.prog 36 #[.int .i64 9] w fun e w' => e = .returned (.string ⟨#[116, 97, 103]⟩) ∧ w = w' := by
  go_enter Tryz.func36, Tryz.ntmps36
  go_wp2
  go_ret
  exact ⟨rfl, rfl⟩
theorem err_10 (w : World) : Calls Tryz.prog 36 #[.int .i64 10] w fun e w' => e = .returned (.string ⟨#[100, 101, 101, 112]⟩) ∧ w = w' := by
  go_enter Tryz.func36, Tryz.ntmps36
  go_wp2
  go_ret
  exact ⟨rfl, rfl⟩
theorem err_11 (w : World) : Calls Tryz.prog 36 #[.int .i64 11] w fun e w' => e = .returned (.string ⟨#[116, 101, 120, 116]⟩) ∧ w = w' := by
  go_enter Tryz.func36, Tryz.ntmps36
  go_wp2_with (go_at_call 50; refine (more_11 _).mono ?_; rintro e w' ⟨rfl, rfl⟩)
  go_ret
  exact ⟨rfl, rfl⟩
theorem err_12 (w : World) : Calls Tryz.prog 36 #[.int .i64 12] w fun e w' => e = .returned (.string ⟨#[110, 111, 110, 101]⟩) ∧ w = w' := by
  go_enter Tryz.func36, Tryz.ntmps36
  go_wp2_with (go_at_call 50; refine (more_12 _).mono ?_; rintro e w' ⟨rfl, rfl⟩)
  go_ret
  exact ⟨rfl, rfl⟩
theorem err_13 (w : World) : Calls Tryz.prog 36 #[.int .i64 13] w fun e w' => e = .returned (.string ⟨#[102, 117, 108, 108]⟩) ∧ w = w' := by
  go_enter Tryz.func36, Tryz.ntmps36
  go_wp2_with (go_at_call 50; refine (more_13 _).mono ?_; rintro e w' ⟨rfl, rfl⟩)
  go_ret
  exact ⟨rfl, rfl⟩
theorem err_14 (w : World) : Calls Tryz.prog 36 #[.int .i64 14] w fun e w' => e = .returned (.string ⟨#[113, 117, 111, 116, 97]⟩) ∧ w = w' := by
  go_enter Tryz.func36, Tryz.ntmps36
  go_wp2_with (go_at_call 50; refine (more_14 _).mono ?_; rintro e w' ⟨rfl, rfl⟩)
  go_ret
  exact ⟨rfl, rfl⟩
theorem err_15 (w : World) : Calls Tryz.prog 36 #[.int .i64 15] w fun e w' => e = .returned (.string ⟨#[98, 117, 115, 121]⟩) ∧ w = w' := by
  go_enter Tryz.func36, Tryz.ntmps36
  go_wp2_with (go_at_call 50; refine (more_15 _).mono ?_; rintro e w' ⟨rfl, rfl⟩)
  go_ret
  exact ⟨rfl, rfl⟩
theorem err_16 (w : World) : Calls Tryz.prog 36 #[.int .i64 16] w fun e w' => e = .returned (.string ⟨#[97, 117, 116, 104]⟩) ∧ w = w' := by
  go_enter Tryz.func36, Tryz.ntmps36
  go_wp2_with (go_at_call 50; refine (more_16 _).mono ?_; rintro e w' ⟨rfl, rfl⟩)
  go_ret
  exact ⟨rfl, rfl⟩
theorem err_17 (w : World) : Calls Tryz.prog 36 #[.int .i64 17] w fun e w' => e = .returned (.string ⟨#[115, 116, 97, 116, 101]⟩) ∧ w = w' := by
  go_enter Tryz.func36, Tryz.ntmps36
  go_wp2_with (go_at_call 50; refine (more_17 _).mono ?_; rintro e w' ⟨rfl, rfl⟩)
  go_ret
  exact ⟨rfl, rfl⟩
theorem err_18 (w : World) : Calls Tryz.prog 36 #[.int .i64 18] w fun e w' => e = .returned (.string ⟨#[108, 97, 116, 101]⟩) ∧ w = w' := by
  go_enter Tryz.func36, Tryz.ntmps36
  go_wp2_with (go_at_call 50; refine (more_18 _).mono ?_; rintro e w' ⟨rfl, rfl⟩)
  go_ret
  exact ⟨rfl, rfl⟩
theorem err_19 (w : World) : Calls Tryz.prog 36 #[.int .i64 19] w fun e w' => e = .returned (.string ⟨#[103, 111, 110, 101]⟩) ∧ w = w' := by
  go_enter Tryz.func36, Tryz.ntmps36
  go_wp2_with (go_at_call 50; refine (more_19 _).mono ?_; rintro e w' ⟨rfl, rfl⟩)
  go_ret
  exact ⟨rfl, rfl⟩
theorem err_20 (w : World) : Calls Tryz.prog 36 #[.int .i64 20] w fun e w' => e = .returned (.string ⟨#[114, 101, 115, 116]⟩) ∧ w = w' := by
  go_enter Tryz.func36, Tryz.ntmps36
  go_wp2_with (go_at_call 50; refine (more_20 _).mono ?_; rintro e w' ⟨rfl, rfl⟩)
  go_ret
  exact ⟨rfl, rfl⟩
theorem err_any (k : Nat) (h1 : 1 ≤ k) (h9 : k ≤ 20) (w : World) : Calls Tryz.prog 36 #[.int .i64 k] w fun e w' => e = .returned (.string (errB k)) ∧ w = w' := by
  obtain rfl | rfl | rfl | rfl | rfl | rfl | rfl | rfl | rfl | rfl | rfl | rfl | rfl | rfl | rfl | rfl | rfl | rfl | rfl | rfl : k = 1 ∨ k = 2 ∨ k = 3 ∨ k = 4 ∨ k = 5 ∨ k = 6 ∨ k = 7 ∨ k = 8 ∨ k = 9 ∨ k = 10 ∨ k = 11 ∨ k = 12 ∨ k = 13 ∨ k = 14 ∨ k = 15 ∨ k = 16 ∨ k = 17 ∨ k = 18 ∨ k = 19 ∨ k = 20 := by omega
  · exact err_1 w
  · exact err_2 w
  · exact err_3 w
  · exact err_4 w
  · exact err_5 w
  · exact err_6 w
  · exact err_7 w
  · exact err_8 w
  · exact err_9 w
  · exact err_10 w
  · exact err_11 w
  · exact err_12 w
  · exact err_13 w
  · exact err_14 w
  · exact err_15 w
  · exact err_16 w
  · exact err_17 w
  · exact err_18 w
  · exact err_19 w
  · exact err_20 w

/-- a number as a text -/
def itoaB (n : Int) : ByteArray := ⟨(Lib.itoa n).toArray⟩
/-- a line -/
def lineT (n : Int) (ws : List ByteArray) : ByteArray := if n = 0 then ⟨#[]⟩ else ⟨(Lib.join (ws.map (·.data.toList)) [32]).toArray⟩ ++ ⟨#[32]⟩ ++ itoaB n ++ ⟨#[10]⟩

theorem line_zero (ws : Value) (w : World) : Calls Tryz.prog 34 #[.int .i64 0, ws] w fun e w' => e = .returned (.string ⟨#[]⟩) ∧ w = w' := by
  go_enter Tryz.func34, Tryz.ntmps34
  go_wp2
  go_ret
  exact ⟨rfl, rfl⟩

set_option maxHeartbeats 1000000 in
theorem line_some (n : Int) (hn : n ≠ 0) (ws : List ByteArray) (bk : Nat) (w : World) (hc : ∀ (j : Nat) x, ws[j]? = some x → w.cell? ⟨bk, 0 + j, none⟩ = some (.string x)) (hbk : bk < w.heap.size) (hN : ws.length ≤ 10)
    (hl : (Lib.join (ws.map (·.data.toList)) [32]).length ≤ 1000) (hi : (itoaB n).size ≤ 30)
    (hf : ∀ W, Below w.heap.size w W → Calls Tryz.prog 49 #[.int .i64 n, .int .i64 10] W fun e w' => e = .returned (.string (itoaB n)) ∧ Below W.heap.size W w') :
    Calls Tryz.prog 34 #[.int .i64 n, .slice (some ⟨bk, 0, none⟩) ws.length ws.length] w fun e w' => e = .returned (.string (lineT n ws)) ∧ Below w.heap.size w w' := by
  have hj := Tryz.strings_Join bk 0 ws.length ws ⟨#[32]⟩ w hc hbk (by omega) (Nat.le_refl _) (by show (Lib.join (ws.map (·.data.toList)) [32]).length ≤ _; omega)
  have e1 : lineT n ws = ⟨(Lib.join (ws.map (·.data.toList)) [32]).toArray⟩ ++ ⟨#[32]⟩ ++ itoaB n ++ ⟨#[10]⟩ := if_neg hn
  have hz : (n == 0) = false := beq_eq_false_iff_ne.2 hn
  replace hj : Calls Tryz.prog 48 #[.slice (some ⟨bk, 0, none⟩) ws.length ws.length, .string ⟨#[32]⟩] w fun e w' => e = .returned (.string ⟨(Lib.join (ws.map (·.data.toList)) [32]).toArray⟩) ∧ Below w.heap.size w w' := hj
  have hs : (⟨(Lib.join (ws.map (·.data.toList)) [32]).toArray⟩ : ByteArray).size ≤ 1000 := by
    have e : (⟨(Lib.join (ws.map (·.data.toList)) [32]).toArray⟩ : ByteArray).size = (Lib.join (ws.map (·.data.toList)) [32]).length := List.size_toArray
    omega
  replace e1 := Lib.hid e1
  generalize (⟨(Lib.join (ws.map (·.data.toList)) [32]).toArray⟩ : ByteArray) = J at hj hs e1
  generalize itoaB n = I at hi hf e1
  generalize lineT n ws = L at e1
  have y1 : ¬ 9223372036854775807 < J.size + 1 := by omega
  have y2 : ¬ 9223372036854775807 < J.size + 1 + I.size := by omega
  have y3 : ¬ 9223372036854775807 < J.size + 1 + I.size + 1 := by omega
  clear hc hn hl
  go_enter Tryz.func34, Tryz.ntmps34
  go_wp2_with fail
  refine hj.mono ?_
  rintro e w1 ⟨rfl, p1⟩
  have hf1 := hf w1 p1
  replace p1 := Lib.hid p1
  clear hf hj
  go_wp2_with fail
  refine hf1.mono ?_
  rintro e w2 ⟨rfl, p2⟩
  replace p2 := Lib.hid p2
  go_wp2
  go_ret
  exact ⟨by rw [e1.out]; rfl, p1.out.trans (p2.out.mono p1.out.size)⟩
end Go.Proofs.YteejogoiikmlgaaGreatDoor.Serv
