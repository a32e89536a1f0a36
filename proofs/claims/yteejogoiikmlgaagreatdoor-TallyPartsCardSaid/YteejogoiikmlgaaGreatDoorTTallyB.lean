/-
  tally: where errors and owners are counted; what is counted of one; a row, an output, another tally: the walks.
-/
import Derived.Test.YteejogoiikmlgaaGreatDoorTTally
import Derived.Deep.QuietTactic
import Derived.BigQuiet
import Derived.Deep.RegionWith
import Derived.WalkSmall
namespace Go.Proofs.YteejogoiikmlgaaGreatDoor.Tally
open Go.RowKit
set_option linter.unusedVariables false
set_option linter.unusedSimpArgs false

theorem error_any (b : Nat) (k : Int) (w : World) : Calls Tryz.prog 24 #[.pointer (some ⟨b, 0, none⟩), .int .i64 k] w fun e w' => e = .returned (place b 10 1 20 k) ∧ w = w' := by
  unfold place
  cases hk : withinB k 1 20 with
  | false =>
    have hw := fun x => within_any k 1 20 x
    rw [hk] at hw
    clear hk
    go_enter Tryz.func24, Tryz.ntmps24
    go_wp2_with (go_at_call 42; refine (hw _).mono ?_; rintro e w' ⟨rfl, rfl⟩)
    go_ret
    exact ⟨rfl, rfl⟩
  | true =>
    have hw := fun x => within_any k 1 20 x
    rw [hk] at hw
    have hb : 1 ≤ k ∧ k ≤ 20 := by unfold withinB at hk; simpa using hk
    obtain ⟨n, rfl⟩ : ∃ n : Nat, k = (n : Int) := ⟨k.toNat, by omega⟩
    have hn : n < 21 := by omega
    have hn' : (n : Int) < 21 := by omega
    clear hk hb
    go_enter Tryz.func24, Tryz.ntmps24
    go_wp2_with (go_at_call 42; refine (hw _).mono ?_; rintro e w' ⟨rfl, rfl⟩)
    go_ret
    exact ⟨by simp, rfl⟩

theorem owner_any (b : Nat) (k : Int) (w : World) : Calls Tryz.prog 25 #[.pointer (some ⟨b, 0, none⟩), .int .i64 k] w fun e w' => e = .returned (place b 31 0 8 k) ∧ w = w' := by
  unfold place
  cases hk : withinB k 0 8 with
  | false =>
    have hw := fun x => within_any k 0 8 x
    rw [hk] at hw
    clear hk
    go_enter Tryz.func25, Tryz.ntmps25
    go_wp2_with (go_at_call 42; refine (hw _).mono ?_; rintro e w' ⟨rfl, rfl⟩)
    go_ret
    exact ⟨rfl, rfl⟩
  | true =>
    have hw := fun x => within_any k 0 8 x
    rw [hk] at hw
    have hb : 0 ≤ k ∧ k ≤ 8 := by unfold withinB at hk; simpa using hk
    obtain ⟨n, rfl⟩ : ∃ n : Nat, k = (n : Int) := ⟨k.toNat, by omega⟩
    have hn : n < 9 := by omega
    have hn' : (n : Int) < 9 := by omega
    clear hk hb
    go_enter Tryz.func25, Tryz.ntmps25
    go_wp2_with (go_at_call 42; refine (hw _).mono ?_; rintro e w' ⟨rfl, rfl⟩)
    go_ret
    exact ⟨by simp, rfl⟩

/-- what is counted of a number -/
def got (f : Nat → Int) (base : Nat) (lo hi k : Int) : Int := if withinB k lo hi then f (base + k.toNat) else 0

theorem load_place (B : Nat) (f : Nat → Int) (base : Nat) (lo hi k : Int) (w : World) (h : Tal B f w) (hb : ∀ k : Int, withinB k lo hi = true → base + k.toNat < 44) :
    Calls Tryz.prog 31 #[place B base lo hi k] w fun e w' => e = .returned (.int .i64 (got f base lo hi k)) ∧ w = w' := by
  unfold place got
  cases hk : withinB k lo hi with
  | false => exact load_nil w
  | true => exact load_some B _ _ w (h.cell _ (hb k hk))
theorem kind_fits (k : Int) (h : withinB k 1 9 = true) : 0 + k.toNat < 44 := by unfold withinB at h; simp at h; omega
theorem error_fits (k : Int) (h : withinB k 1 20 = true) : 10 + k.toNat < 44 := by unfold withinB at h; simp at h; omega
theorem owner_fits (k : Int) (h : withinB k 0 8 = true) : 31 + k.toNat < 44 := by unfold withinB at h; simp at h; omega

theorem came_nil (k : Int) (w : World) : Calls Tryz.prog 12 #[.pointer none, .int .i64 k] w fun e w' => e = .returned (.int .i64 0) ∧ w = w' := by
  go_enter Tryz.func12, Tryz.ntmps12
  go_wp2_with (first | (go_at_call 23; refine (kind_nil k _).mono ?_; rintro e w' ⟨rfl, rfl⟩) | (go_at_call 31; refine (load_nil _).mono ?_; rintro e w' ⟨rfl, rfl⟩))
  go_ret
  exact ⟨rfl, rfl⟩
theorem came_any (B : Nat) (f : Nat → Int) (k : Int) (w : World) (h : Tal B f w) : Calls Tryz.prog 12 #[.pointer (some ⟨B, 0, none⟩), .int .i64 k] w fun e w' => e = .returned (.int .i64 (got f 0 1 9 k)) ∧ w = w' := by
  have hl := load_place B f 0 1 9 k w h kind_fits
  have hp := kind_any B k w
  generalize place B 0 1 9 k = p at hl hp
  generalize got f 0 1 9 k = g at hl
  go_enter Tryz.func12, Tryz.ntmps12
  go_wp2_with (first | (go_at_call 23; refine hp.mono ?_; rintro e w' ⟨rfl, rfl⟩) | (go_at_call 31; refine hl.mono ?_; rintro e w' ⟨rfl, rfl⟩))
  go_ret
  exact ⟨rfl, rfl⟩

theorem refused_nil (k : Int) (w : World) : Calls Tryz.prog 14 #[.pointer none, .int .i64 k] w fun e w' => e = .returned (.int .i64 0) ∧ w = w' := by
  go_enter Tryz.func14, Tryz.ntmps14
  go_wp2_with (first | (go_at_call 24; refine (error_nil k _).mono ?_; rintro e w' ⟨rfl, rfl⟩) | (go_at_call 31; refine (load_nil _).mono ?_; rintro e w' ⟨rfl, rfl⟩))
  go_ret
  exact ⟨rfl, rfl⟩
theorem refused_any (B : Nat) (f : Nat → Int) (k : Int) (w : World) (h : Tal B f w) : Calls Tryz.prog 14 #[.pointer (some ⟨B, 0, none⟩), .int .i64 k] w fun e w' => e = .returned (.int .i64 (got f 10 1 20 k)) ∧ w = w' := by
  have hl := load_place B f 10 1 20 k w h error_fits
  have hp := error_any B k w
  generalize place B 10 1 20 k = p at hl hp
  generalize got f 10 1 20 k = g at hl
  go_enter Tryz.func14, Tryz.ntmps14
  go_wp2_with (first | (go_at_call 24; refine hp.mono ?_; rintro e w' ⟨rfl, rfl⟩) | (go_at_call 31; refine hl.mono ?_; rintro e w' ⟨rfl, rfl⟩))
  go_ret
  exact ⟨rfl, rfl⟩

theorem served_nil (k : Int) (w : World) : Calls Tryz.prog 16 #[.pointer none, .int .i64 k] w fun e w' => e = .returned (.int .i64 0) ∧ w = w' := by
  go_enter Tryz.func16, Tryz.ntmps16
  go_wp2_with (first | (go_at_call 25; refine (owner_nil k _).mono ?_; rintro e w' ⟨rfl, rfl⟩) | (go_at_call 31; refine (load_nil _).mono ?_; rintro e w' ⟨rfl, rfl⟩))
  go_ret
  exact ⟨rfl, rfl⟩
theorem served_any (B : Nat) (f : Nat → Int) (k : Int) (w : World) (h : Tal B f w) : Calls Tryz.prog 16 #[.pointer (some ⟨B, 0, none⟩), .int .i64 k] w fun e w' => e = .returned (.int .i64 (got f 31 0 8 k)) ∧ w = w' := by
  have hl := load_place B f 31 0 8 k w h owner_fits
  have hp := owner_any B k w
  generalize place B 31 0 8 k = p at hl hp
  generalize got f 31 0 8 k = g at hl
  go_enter Tryz.func16, Tryz.ntmps16
  go_wp2_with (first | (go_at_call 25; refine hp.mono ?_; rintro e w' ⟨rfl, rfl⟩) | (go_at_call 31; refine hl.mono ?_; rintro e w' ⟨rfl, rfl⟩))
  go_ret
  exact ⟨rfl, rfl⟩

theorem rest_nil (w : World) : Calls Tryz.prog 20 #[.pointer none] w fun e w' => e = .returned (.tuple #[.int .i64 0, .int .i64 0, .int .i64 0, .int .i64 0]) ∧ w = w' := by
  go_enter Tryz.func20, Tryz.ntmps20
  go_wp2
  exact bodyPost_ret (v := .tuple #[.int .i64 0, .int .i64 0, .int .i64 0, .int .i64 0]) (by simp [results, Tryz.results20, go_sem]) rfl ⟨rfl, rfl⟩

theorem load_at (B : Nat) (f : Nat → Int) (i : Nat) (W : World) (h : Hid (Tal B f W)) (hi : i < 44) : Calls Tryz.prog 32 #[.pointer (some ⟨B, i, none⟩)] W fun e w' => e = .returned (.int .i64 (f i)) ∧ W = w' := load64 B i _ W (h.out.cell i hi)

set_option maxHeartbeats 1000000 in
theorem rest_any (B : Nat) (f : Nat → Int) (w : World) (h : Tal B f w) : Calls Tryz.prog 20 #[.pointer (some ⟨B, 0, none⟩)] w fun e w' => e = .returned (.tuple #[.int .i64 (f 40), .int .i64 (f 41), .int .i64 (f 42), .int .i64 (f 43)]) ∧ ∃ n, w' = w.drewN n := by
  have hq : ∀ n i, i < 44 → Calls Tryz.prog 32 #[.pointer (some ⟨B, i, none⟩)] (w.drewN n) fun e w' => e = .returned (.int .i64 (f i)) ∧ w' = w.drewN n := fun n i hi => (load64 B i _ _ ((h.below (below_drewN (Below.refl _ _) n)).cell i hi)).mono fun _ _ hh => ⟨hh.1, hh.2.symm⟩
  go_enter Tryz.func20, Tryz.ntmps20
  go_wp2_with fail
  clear h
  go_quiet ((go_at_call 32; exact Calls.quiet_of_same (hq _ _ (by decide))))
  go_wp2
  exact bodyPost_ret (v := .tuple #[.int .i64 (f 40), .int .i64 (f 41), .int .i64 (f 42), .int .i64 (f 43)]) (by simp [results, Tryz.results20, go_sem]) rfl ⟨rfl, _, rfl⟩
end Go.Proofs.YteejogoiikmlgaaGreatDoor.Tally
