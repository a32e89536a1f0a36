/-
  tally.Add: the walk: another tally, or itself.
-/
import Derived.Test.YteejogoiikmlgaaGreatDoorTFmt
namespace Go.Proofs.YteejogoiikmlgaaGreatDoor.Serv
open Go.RowKit Go.Proofs.YteejogoiikmlgaaGreatDoor.Tally
set_option linter.unusedVariables false
set_option linter.unusedSimpArgs false
set_option linter.unnecessarySimpa false

/-- the first k places are added -/
def mix (f g : Nat → Int) (k : Nat) : Nat → Int := fun j => if j < k then IntKind.i64.wrap (f j + g j) else f j
theorem mix_zero (f g : Nat → Int) : mix f g 0 = f := by funext j; unfold mix; simp
theorem mix_succ (f g : Nat → Int) (k : Nat) : Tally.put (mix f g k) k (IntKind.i64.wrap (mix f g k k + g k)) = mix f g (k + 1) := by
  funext j
  unfold Tally.put mix
  by_cases h : j = k
  · subst h; simp
  · rw [if_neg h]
    by_cases h2 : j < k
    · rw [if_pos h2, if_pos (by omega)]
    · rw [if_neg h2, if_neg (by omega)]

/-- what holds while the places are added one by one -/
structure Mx (B C : Nat) (f g : Nat → Int) (w : World) (k : Nat) (wr : World) : Prop where
  tal : Tal B (mix f g k) wr
  grown : w.grownBy wr (some B)
  cell : k < 44 → wr.cell? ⟨C, k, none⟩ = some (.int .i64 (g k))

/-- the other tally's places are read as they were -/
def Reads (B C : Nat) (f g : Nat → Int) (w : World) : Prop := ∀ k wr, k < 44 → Tal B (mix f g k) wr → w.grownBy wr (some B) → wr.cell? ⟨C, k, none⟩ = some (.int .i64 (g k))
theorem reads_other {B C : Nat} {f g : Nat → Int} {w : World} (h : Tal C g w) (hne : C ≠ B) : Reads B C f g w := fun k wr hk _ hg => (h.grown hg (by simpa using hne)).cell k hk
theorem reads_self {B : Nat} {f : Nat → Int} {w : World} : Reads B B f f w := fun k wr hk ht _ => by
  have := ht.cell k hk
  rwa [show mix f f k k = f k by unfold mix; simp] at this

theorem step {B C : Nat} {f g : Nat → Int} {w wr : World} {k : Nat} (hr : Reads B C f g w) (h : Mx B C f g w k wr) (hk : k < 44) (W : World) (hW : wr.drew = W) :
    Calls Tryz.prog 26 #[.pointer (some ⟨B, k, none⟩), .int .i64 (g k)] W fun e w' => (∃ v, e = .returned v) ∧ Mx B C f g w (k + 1) w' := by
  subst hW
  refine (add_fix B (mix f g k) k (g k) _ (h.tal.below (Below.refl _ _).drew) hk).mono ?_
  rintro e w' ⟨he, ht, hg⟩
  rw [mix_succ] at ht
  have hgr : w.grownBy w' (some B) := (h.grown.trans (grow_drew _ _)).trans hg
  exact ⟨⟨_, he⟩, ht, hgr, fun h' => hr _ _ h' ht hgr⟩

set_option maxRecDepth 100000 in
set_option maxHeartbeats 4000000 in
theorem add_gen (B C : Nat) (f g : Nat → Int) (w : World) (hB : Tal B f w) (hr : Reads B C f g w) :
    Calls Tryz.prog 18 #[.pointer (some ⟨B, 0, none⟩), .pointer (some ⟨C, 0, none⟩)] w fun e w' => e = .returned (.tuple #[]) ∧ Tal B (mix f g 44) w' ∧ w.grownBy w' (some B) := by
  have m0 : Hid (Mx B C f g w 0 w) := ⟨by rw [mix_zero]; exact hB, World.grownBy.refl _ _, fun h => hr 0 w h (by rw [mix_zero]; exact hB) (World.grownBy.refl _ _)⟩
  replace hr := Lib.hid hr
  clear hB
  go_enter Tryz.func18, Tryz.ntmps18
  go_wp2_with fail
  go_loopw [13] (fun i wr => ∃ k : Nat, k ≤ 10 ∧ i = .int .i64 k ∧ Hid (Mx B C f g w (k) wr)) (fun i _ => 10 - (intOf i).toNat)
  case atStart => exact ⟨0, by omega, rfl, m0⟩
  case round =>
    obtain ⟨k, hk, rfl, hx⟩ := hrel
    by_cases hlt : k < 10
    · have hlt' : (k : Int) < 10 := by omega
      have hs := step hr.out hx.out (by omega) _ rfl
      have hc := load64 C (k) _ wr.drew (hx.out.cell (by omega))
      clear hx
      go_wp2_with fail
      go_region_with (first
        | (go_at_call 32; refine hc.mono ?_; rintro e w' ⟨rfl, rfl⟩)
        | (go_at_call 26; refine hs.mono ?_; rintro e w2 ⟨⟨v, rfl⟩, m2⟩; have m2' := Lib.hid m2; clear m2))
      all_goals clear hs hc
      all_goals go_wp2
      all_goals go_roundw
      case rel => exact ⟨k + 1, by omega, by go_num, m2'⟩
      case measure => simp [intOf]; omega
    · obtain rfl : k = 10 := by omega
      clear hlt hk
      rw [show ((10 : Nat) : Int) = 10 from rfl]
      have hx13 := hx
      clear hx
      go_wp2_with fail
      go_loopw [29] (fun i wr => ∃ k : Nat, k ≤ 21 ∧ i = .int .i64 k ∧ Hid (Mx B C f g w (10 + k) wr)) (fun i _ => 21 - (intOf i).toNat)
      case atStart => exact ⟨0, by omega, rfl, hx13⟩
      case round =>
        obtain ⟨k, hk, rfl, hx⟩ := hrel
        by_cases hlt : k < 21
        · have hlt' : (k : Int) < 21 := by omega
          have hs := step hr.out hx.out (by omega) _ rfl
          have hc := load64 C (10 + k) _ wr.drew (hx.out.cell (by omega))
          clear hx
          go_wp2_with fail
          go_region_with (first
            | (go_at_call 32; refine hc.mono ?_; rintro e w' ⟨rfl, rfl⟩)
            | (go_at_call 26; refine hs.mono ?_; rintro e w2 ⟨⟨v, rfl⟩, m2⟩; have m2' := Lib.hid m2; clear m2))
          all_goals clear hs hc
          all_goals go_wp2
          all_goals go_roundw
          case rel => exact ⟨k + 1, by omega, by go_num, m2'⟩
          case measure => simp [intOf]; omega
        · obtain rfl : k = 21 := by omega
          clear hlt hk
          rw [show ((21 : Nat) : Int) = 21 from rfl]
          have hx29 := hx
          clear hx
          go_wp2_with fail
          go_loopw [45] (fun i wr => ∃ k : Nat, k ≤ 9 ∧ i = .int .i64 k ∧ Hid (Mx B C f g w (31 + k) wr)) (fun i _ => 9 - (intOf i).toNat)
          case atStart => exact ⟨0, by omega, rfl, hx29⟩
          case round =>
            obtain ⟨k, hk, rfl, hx⟩ := hrel
            by_cases hlt : k < 9
            · have hlt' : (k : Int) < 9 := by omega
              have hs := step hr.out hx.out (by omega) _ rfl
              have hc := load64 C (31 + k) _ wr.drew (hx.out.cell (by omega))
              clear hx
              go_wp2_with fail
              go_region_with (first
                | (go_at_call 32; refine hc.mono ?_; rintro e w' ⟨rfl, rfl⟩)
                | (go_at_call 26; refine hs.mono ?_; rintro e w2 ⟨⟨v, rfl⟩, m2⟩; have m2' := Lib.hid m2; clear m2))
              all_goals clear hs hc
              all_goals go_wp2
              all_goals go_roundw
              case rel => exact ⟨k + 1, by omega, by go_num, m2'⟩
              case measure => simp [intOf]; omega
            · obtain rfl : k = 9 := by omega
              clear hlt hk
              rw [show ((9 : Nat) : Int) = 9 from rfl]
              have hx45 := hx
              clear hx
              go_wp2_with fail
              have hs := step (k := 40) hr.out hx45.out (by decide) _ rfl
              have hc := load64 C 40 _ wr.drew (hx45.out.cell (by decide))
              clear hx45
              go_region_with (first
                | (go_at_call 32; refine hc.mono ?_; rintro e w' ⟨rfl, rfl⟩)
                | (go_at_call 26; refine hs.mono ?_; rintro e w40 ⟨⟨v40, rfl⟩, m40⟩; have n40 := Lib.hid m40; clear m40))
              clear hs hc
              go_wp2_with fail
              have hs := step (k := 41) hr.out n40.out (by decide) _ rfl
              have hc := load64 C 41 _ (World.drew _) (n40.out.cell (by decide))
              clear n40
              go_region_with (first
                | (go_at_call 32; refine hc.mono ?_; rintro e w' ⟨rfl, rfl⟩)
                | (go_at_call 26; refine hs.mono ?_; rintro e w41 ⟨⟨v41, rfl⟩, m41⟩; have n41 := Lib.hid m41; clear m41))
              clear hs hc
              go_wp2_with fail
              have hs := step (k := 42) hr.out n41.out (by decide) _ rfl
              have hc := load64 C 42 _ (World.drew _) (n41.out.cell (by decide))
              clear n41
              go_region_with (first
                | (go_at_call 32; refine hc.mono ?_; rintro e w' ⟨rfl, rfl⟩)
                | (go_at_call 26; refine hs.mono ?_; rintro e w42 ⟨⟨v42, rfl⟩, m42⟩; have n42 := Lib.hid m42; clear m42))
              clear hs hc
              go_wp2_with fail
              have hs := step (k := 43) hr.out n42.out (by decide) _ rfl
              have hc := load64 C 43 _ (World.drew _) (n42.out.cell (by decide))
              clear n42
              go_region_with (first
                | (go_at_call 32; refine hc.mono ?_; rintro e w' ⟨rfl, rfl⟩)
                | (go_at_call 26; refine hs.mono ?_; rintro e w43 ⟨⟨v43, rfl⟩, m43⟩; have n43 := Lib.hid m43; clear m43))
              clear hs hc
              go_wp2_with fail
              go_end0
              exact ⟨rfl, n43.out.tal, n43.out.grown⟩
end Go.Proofs.YteejogoiikmlgaaGreatDoor.Serv
