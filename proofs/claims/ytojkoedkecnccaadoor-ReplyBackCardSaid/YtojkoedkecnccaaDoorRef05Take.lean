/-
  The document's answer of layer 5 (Take): the walk: the frame and the error are the program's own; the length is its own.
-/
import Derived.Test.YtojkoedkecnccaaDoorFrameTake
import Derived.Laws.ResultCell
import Derived.WalkSpells
namespace Go.Proofs.YtojkoedkecnccaaDoor.Frame
open Go.RowKit Go.Proofs.YtojkoedkecnccaaDoor.Pad
set_option linter.unusedVariables false
set_option linter.unusedSimpArgs false

def RetN (k f : Nat) (body : ByteArray) (e : Nat) (w : World) (r : Ending) (w' : World) : Prop :=
  ∃ n : Int, r = .returned (.tuple #[.agg #[.int .i64 k, .int .i64 f, .string body], .int .i64 n, .int .i64 e]) ∧ Below w.heap.size w w'

set_option maxRecDepth 100000 in
set_option maxHeartbeats 1000000 in
theorem take05_short (b : ByteArray) (w : World) (hs : b.size < 4) :
    Calls Tryd.prog 48 #[.string b] w (RetN 0 0 ⟨#[]⟩ 2 w) := by
  have hs' : (b.size : Int) < 4 := by omega
  go_enter Tryd.func48, Tryd.ntmps48
  go_wp2
  refine bodyPost_ret (v := .tuple #[.agg #[.int .i64 0, .int .i64 0, .string ⟨#[]⟩], .int .i64 (-1), .int .i64 2]) (by simp [results, Tryd.results48, go_sem]) rfl ⟨-1, rfl, ?_⟩
  repeat (first | exact Below.refl _ _ | apply below_drewN | apply Below.drew | refine Below.setCell ?_ (by simp) _ | refine Below.alloc ?_ (by simp) _)

set_option maxRecDepth 100000 in
set_option maxHeartbeats 1000000 in
theorem take05_ok (b : ByteArray) (w : World) (hb : b.size ≤ 140737488351232) (h4 : 4 ≤ b.size) (hk : 1 ≤ by' b 0 ∧ by' b 0 ≤ 9) (hl : len2 b ≤ 1024) (hn : len2 b + 4 ≤ b.size) :
    Calls Tryd.prog 48 #[.string b] w (RetN (by' b 0) (by' b 1) (b.extract 4 (4 + len2 b)) 0 w) := by
  have hs' : ¬ (b.size : Int) < 4 := by omega
  have i0 : (0 : Int) < (b.size : Int) := by omega
  have i1 : (1 : Int) < (b.size : Int) := by omega
  have i2 : (2 : Int) < (b.size : Int) := by omega
  have i3 : (3 : Int) < (b.size : Int) := by omega
  have g0 := by_at b 0 (by omega)
  have g1 := by_at b 1 (by omega)
  have g2 := by_at b 2 (by omega)
  have g3 := by_at b 3 (by omega)
  have l0 := by_lt b 0
  have l1 := by_lt b 1
  have l2 := by_lt b 2
  have l3 := by_lt b 3
  have k1 : ¬ (by' b 0 : Int) < 1 := by omega
  have k2 : ¬ (9 : Int) < (by' b 0 : Int) := by omega
  have e0 : IntKind.i64.wrap (by' b 0 : Int) = (by' b 0 : Int) := IntWalk.i64_in _ (by omega)
  have e1 : IntKind.i64.wrap (by' b 1 : Int) = (by' b 1 : Int) := IntWalk.i64_in _ (by omega)
  have e2 : IntKind.i64.wrap (by' b 2 : Int) = (by' b 2 : Int) := IntWalk.i64_in _ (by omega)
  have e3 : IntKind.i64.wrap (by' b 3 : Int) = (by' b 3 : Int) := IntWalk.i64_in _ (by omega)
  have e4 : IntKind.i64.wrap ((by' b 2 : Int) * 256) = (by' b 2 : Int) * 256 := IntWalk.i64_in _ (by omega)
  have e5 : IntKind.i64.wrap ((by' b 2 : Int) * 256 + (by' b 3 : Int)) = (len2 b : Int) := by rw [IntWalk.i64_in _ (by omega)]; unfold len2; omega
  have n1 : ¬ (1024 : Int) < (len2 b : Int) := by omega
  have n2 : IntKind.i64.wrap (4 + (len2 b : Int)) = 4 + (len2 b : Int) := IntWalk.i64_in _ (by omega)
  have n3 : ¬ (b.size : Int) < 4 + (len2 b : Int) := by omega
  have n4 : (4 : Int) ≤ 4 + (len2 b : Int) := by omega
  have n5 : 4 + (len2 b : Int) ≤ (b.size : Int) := by omega
  generalize len2 b = n at hl hn e5 n1 n2 n3 n4 n5
  go_enter Tryd.func48, Tryd.ntmps48
  go_wp2_with fail
  go_quiet (fail)
  go_wp2_with fail
  go_region_held3 (fun x => Hid (Below w.heap.size w x))
    ((change Below _ _ _; repeat (first | exact Below.refl _ _ | apply below_drewN | apply Below.drew | refine Below.setCell ?_ (by simp) _ | refine Below.alloc ?_ (by simp) _)))
    (fail)
  all_goals go_wp2
  all_goals refine bodyPost_ret (v := .tuple #[.agg #[.int .i64 (by' b 0), .int .i64 (by' b 1), .string (b.extract 4 (4 + n))], .int .i64 n, .int .i64 0]) (by simp [results, Tryd.results48, go_sem]) rfl ⟨_, rfl, ?_⟩
  all_goals repeat (first | exact Below.refl _ _ | apply below_drewN | apply Below.drew | refine Below.setCell ?_ (by simp) _ | refine Below.alloc ?_ (by simp) _)
set_option maxRecDepth 100000 in
set_option maxHeartbeats 1000000 in
theorem take05_low (b : ByteArray) (w : World) (hb : b.size ≤ 140737488351232) (h4 : 4 ≤ b.size) (hk : by' b 0 < 1) :
    Calls Tryd.prog 48 #[.string b] w (RetN 0 0 ⟨#[]⟩ 4 w) := by
  have hs' : ¬ (b.size : Int) < 4 := by omega
  have i0 : (0 : Int) < (b.size : Int) := by omega
  have i1 : (1 : Int) < (b.size : Int) := by omega
  have i2 : (2 : Int) < (b.size : Int) := by omega
  have i3 : (3 : Int) < (b.size : Int) := by omega
  have g0 := by_at b 0 (by omega)
  have g1 := by_at b 1 (by omega)
  have g2 := by_at b 2 (by omega)
  have g3 := by_at b 3 (by omega)
  have l0 := by_lt b 0
  have l1 := by_lt b 1
  have l2 := by_lt b 2
  have l3 := by_lt b 3
  have k1 : (by' b 0 : Int) < 1 := by omega
  go_enter Tryd.func48, Tryd.ntmps48
  go_wp2
  all_goals refine bodyPost_ret (v := .tuple #[.agg #[.int .i64 0, .int .i64 0, .string ⟨#[]⟩], .int .i64 (-1), .int .i64 4]) (by simp [results, Tryd.results48, go_sem]) rfl ⟨_, rfl, ?_⟩
  all_goals repeat (first | exact Below.refl _ _ | apply below_drewN | apply Below.drew | refine Below.setCell ?_ (by simp) _ | refine Below.alloc ?_ (by simp) _)

set_option maxRecDepth 100000 in
set_option maxHeartbeats 1000000 in
theorem take05_high (b : ByteArray) (w : World) (hb : b.size ≤ 140737488351232) (h4 : 4 ≤ b.size) (hk : 9 < by' b 0) :
    Calls Tryd.prog 48 #[.string b] w (RetN 0 0 ⟨#[]⟩ 4 w) := by
  have hs' : ¬ (b.size : Int) < 4 := by omega
  have i0 : (0 : Int) < (b.size : Int) := by omega
  have i1 : (1 : Int) < (b.size : Int) := by omega
  have i2 : (2 : Int) < (b.size : Int) := by omega
  have i3 : (3 : Int) < (b.size : Int) := by omega
  have g0 := by_at b 0 (by omega)
  have g1 := by_at b 1 (by omega)
  have g2 := by_at b 2 (by omega)
  have g3 := by_at b 3 (by omega)
  have l0 := by_lt b 0
  have l1 := by_lt b 1
  have l2 := by_lt b 2
  have l3 := by_lt b 3
  have k1 : ¬ (by' b 0 : Int) < 1 := by omega
  have k2 : (9 : Int) < (by' b 0 : Int) := by omega
  go_enter Tryd.func48, Tryd.ntmps48
  go_wp2
  all_goals refine bodyPost_ret (v := .tuple #[.agg #[.int .i64 0, .int .i64 0, .string ⟨#[]⟩], .int .i64 (-1), .int .i64 4]) (by simp [results, Tryd.results48, go_sem]) rfl ⟨_, rfl, ?_⟩
  all_goals repeat (first | exact Below.refl _ _ | apply below_drewN | apply Below.drew | refine Below.setCell ?_ (by simp) _ | refine Below.alloc ?_ (by simp) _)

set_option maxRecDepth 100000 in
set_option maxHeartbeats 1000000 in
theorem take05_long (b : ByteArray) (w : World) (hb : b.size ≤ 140737488351232) (h4 : 4 ≤ b.size) (hk : 1 ≤ by' b 0 ∧ by' b 0 ≤ 9) (hl : 1024 < len2 b) :
    Calls Tryd.prog 48 #[.string b] w (RetN 0 0 ⟨#[]⟩ 3 w) := by
  have hs' : ¬ (b.size : Int) < 4 := by omega
  have i0 : (0 : Int) < (b.size : Int) := by omega
  have i1 : (1 : Int) < (b.size : Int) := by omega
  have i2 : (2 : Int) < (b.size : Int) := by omega
  have i3 : (3 : Int) < (b.size : Int) := by omega
  have g0 := by_at b 0 (by omega)
  have g1 := by_at b 1 (by omega)
  have g2 := by_at b 2 (by omega)
  have g3 := by_at b 3 (by omega)
  have l0 := by_lt b 0
  have l1 := by_lt b 1
  have l2 := by_lt b 2
  have l3 := by_lt b 3
  have k1 : ¬ (by' b 0 : Int) < 1 := by omega
  have k2 : ¬ (9 : Int) < (by' b 0 : Int) := by omega
  have e2 : IntKind.i64.wrap (by' b 2 : Int) = (by' b 2 : Int) := IntWalk.i64_in _ (by omega)
  have e3 : IntKind.i64.wrap (by' b 3 : Int) = (by' b 3 : Int) := IntWalk.i64_in _ (by omega)
  have e4 : IntKind.i64.wrap ((by' b 2 : Int) * 256) = (by' b 2 : Int) * 256 := IntWalk.i64_in _ (by omega)
  have e5 : IntKind.i64.wrap ((by' b 2 : Int) * 256 + (by' b 3 : Int)) = (len2 b : Int) := by rw [IntWalk.i64_in _ (by omega)]; unfold len2; omega
  have n1 : (1024 : Int) < (len2 b : Int) := by omega
  generalize len2 b = n at hl e5 n1
  go_enter Tryd.func48, Tryd.ntmps48
  go_wp2_with fail
  go_quiet (fail)
  go_wp2
  all_goals refine bodyPost_ret (v := .tuple #[.agg #[.int .i64 0, .int .i64 0, .string ⟨#[]⟩], .int .i64 (-1), .int .i64 3]) (by simp [results, Tryd.results48, go_sem]) rfl ⟨_, rfl, ?_⟩
  all_goals repeat (first | exact Below.refl _ _ | apply below_drewN | apply Below.drew | refine Below.setCell ?_ (by simp) _ | refine Below.alloc ?_ (by simp) _)

set_option maxRecDepth 100000 in
set_option maxHeartbeats 1000000 in
theorem take05_cut (b : ByteArray) (w : World) (hb : b.size ≤ 140737488351232) (h4 : 4 ≤ b.size) (hk : 1 ≤ by' b 0 ∧ by' b 0 ≤ 9) (hl : len2 b ≤ 1024) (hn : b.size < len2 b + 4) :
    Calls Tryd.prog 48 #[.string b] w (RetN 0 0 ⟨#[]⟩ 2 w) := by
  have hs' : ¬ (b.size : Int) < 4 := by omega
  have i0 : (0 : Int) < (b.size : Int) := by omega
  have i1 : (1 : Int) < (b.size : Int) := by omega
  have i2 : (2 : Int) < (b.size : Int) := by omega
  have i3 : (3 : Int) < (b.size : Int) := by omega
  have g0 := by_at b 0 (by omega)
  have g1 := by_at b 1 (by omega)
  have g2 := by_at b 2 (by omega)
  have g3 := by_at b 3 (by omega)
  have l0 := by_lt b 0
  have l1 := by_lt b 1
  have l2 := by_lt b 2
  have l3 := by_lt b 3
  have k1 : ¬ (by' b 0 : Int) < 1 := by omega
  have k2 : ¬ (9 : Int) < (by' b 0 : Int) := by omega
  have e2 : IntKind.i64.wrap (by' b 2 : Int) = (by' b 2 : Int) := IntWalk.i64_in _ (by omega)
  have e3 : IntKind.i64.wrap (by' b 3 : Int) = (by' b 3 : Int) := IntWalk.i64_in _ (by omega)
  have e4 : IntKind.i64.wrap ((by' b 2 : Int) * 256) = (by' b 2 : Int) * 256 := IntWalk.i64_in _ (by omega)
  have e5 : IntKind.i64.wrap ((by' b 2 : Int) * 256 + (by' b 3 : Int)) = (len2 b : Int) := by rw [IntWalk.i64_in _ (by omega)]; unfold len2; omega
  have n1 : ¬ (1024 : Int) < (len2 b : Int) := by omega
  have n2 : IntKind.i64.wrap (4 + (len2 b : Int)) = 4 + (len2 b : Int) := IntWalk.i64_in _ (by omega)
  have n3 : (b.size : Int) < 4 + (len2 b : Int) := by omega
  generalize len2 b = n at hl hn e5 n1 n2 n3
  go_enter Tryd.func48, Tryd.ntmps48
  go_wp2_with fail
  go_quiet (fail)
  go_wp2
  all_goals refine bodyPost_ret (v := .tuple #[.agg #[.int .i64 0, .int .i64 0, .string ⟨#[]⟩], .int .i64 n, .int .i64 2]) (by simp [results, Tryd.results48, go_sem]) rfl ⟨_, rfl, ?_⟩
  all_goals repeat (first | exact Below.refl _ _ | apply below_drewN | apply Below.drew | refine Below.setCell ?_ (by simp) _ | refine Below.alloc ?_ (by simp) _)

theorem take05_any (b : ByteArray) (w : World) (hb : b.size ≤ 140737488351232) :
    Calls Tryd.prog 48 #[.string b] w (RetN (takeV b).1 (takeV b).2.1 (takeV b).2.2.1 (takeV b).2.2.2.2 w) := by
  by_cases h4 : b.size < 4
  · have e : takeV b = (0, 0, ⟨#[]⟩, 0, 2) := by unfold takeV headV; simp [h4]
    rw [e]; exact take05_short b w h4
  · by_cases hk : knownB (by' b 0) = false
    · have e : takeV b = (0, 0, ⟨#[]⟩, 0, 4) := by unfold takeV headV; simp [h4, hk]
      rw [e]
      by_cases h1 : by' b 0 < 1
      · exact take05_low b w hb (by omega) h1
      · refine take05_high b w hb (by omega) ?_
        unfold knownB at hk
        rw [Bool.and_eq_false_iff] at hk
        rcases hk with h | h <;> simp at h <;> omega
    · have hk1 : 1 ≤ by' b 0 ∧ by' b 0 ≤ 9 := by
        unfold knownB at hk
        simp at hk
        omega
      by_cases hl : 1024 < len2 b
      · have e : takeV b = (0, 0, ⟨#[]⟩, 0, 3) := by unfold takeV headV; simp [h4, hk, hl]
        rw [e]; exact take05_long b w hb (by omega) hk1 hl
      · by_cases hn : b.size < len2 b + 4
        · have e : takeV b = (0, 0, ⟨#[]⟩, 0, 2) := by unfold takeV headV; simp [h4, hk, hl, hn]
          rw [e]; exact take05_cut b w hb (by omega) hk1 (by omega) hn
        · have e : takeV b = (by' b 0, by' b 1, b.extract 4 (4 + len2 b), 4 + len2 b, 0) := by unfold takeV headV; simp [h4, hk, hl, hn]
          rw [e]; exact take05_ok b w hb (by omega) hk1 (by omega) (by omega)
end Go.Proofs.YtojkoedkecnccaaDoor.Frame
