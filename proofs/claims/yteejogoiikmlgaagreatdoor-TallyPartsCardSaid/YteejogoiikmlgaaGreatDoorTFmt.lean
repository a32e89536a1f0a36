/-
  strconv.FormatInt of every number, and what a tally of any numbers says.
-/
import Derived.Test.YteejogoiikmlgaaGreatDoorTAwake
import Derived.Lib.ItoaLen
import Derived.Lib.AppendIntMem
import Derived.Lib.SmallJoins
namespace Go.Proofs.YteejogoiikmlgaaGreatDoor.Serv
open Go.RowKit Go.Proofs.YteejogoiikmlgaaGreatDoor.Tally
set_option linter.unusedVariables false
set_option linter.unusedSimpArgs false
set_option linter.unnecessarySimpa false

def Tab (w : World) : Prop := Lib.TabIs Tryz.prog w "internal/strconv.uint64pow10" .u64 Lib.pow10Tab
theorem Tab.below {w w' : World} (h : Tab w) (hb : Below w.heap.size w w') : Tab w' := Joins.tab_stays (show Tryz.prog.globalNamed "internal/strconv.uint64pow10" = some 0 by kernel_rfl) h hb (Nat.le_refl _)

def In64 (n : Int) : Prop := -9223372036854775808 ≤ n ∧ n ≤ 9223372036854775807

theorem formatInt_any (n : Int) (hn : In64 n) (w : World) (ht : Tab w) :
    Calls Tryz.prog 49 #[.int .i64 n, .int .i64 10] w fun e w' => e = .returned (.string (itoaB n)) ∧ Below w.heap.size w w' := by
  have hf := Tryz.internal_strconv_FormatInt_10 n hn.1 hn.2 w ht
  replace hf : Calls Tryz.prog 69 #[.int .i64 n, .int .i64 10] w fun e w' => e = .returned (.string (itoaB n)) ∧ ∃ k os, w' = «Sort».grow (w.drewN k) os := hf
  generalize itoaB n = I at hf
  clear hn
  go_enter Tryz.func49, Tryz.ntmps49
  go_wp2_with fail
  refine hf.mono ?_
  rintro e w1 ⟨rfl, k, os, hw⟩
  have hb : Below w.heap.size w w1 := by rw [hw]; exact Lib.below_grow _ _ (Nat.le_refl _) _ _
  clear hw
  go_wp2
  go_ret
  exact ⟨rfl, hb⟩

theorem itoaB_le (n : Int) (hn : In64 n) : (itoaB n).size ≤ 30 := by
  have := Lib.itoa_length_le n hn.1 hn.2
  show (Lib.itoa n).toArray.size ≤ 30
  simp
  omega

theorem says_any (B : Nat) (f : Nat → Int) (w : World) (h : Tal B f w) (hf : ∀ i, In64 (f i)) (ht : Tab w) : Says (.pointer (some ⟨B, 0, none⟩)) f w where
  came := fun W k hb h1 h9 => by
    have := came_any B f k W ((hb.block B h.lt).trans h)
    rwa [show got f 0 1 9 (k : Int) = f k by unfold got withinB; rw [if_pos (by simp; omega)]; congr 1; omega] at this
  refused := fun W k hb h1 h9 => by
    have := refused_any B f k W ((hb.block B h.lt).trans h)
    rwa [show got f 10 1 20 (k : Int) = f (k + 10) by unfold got withinB; rw [if_pos (by simp; omega)]; congr 1; omega] at this
  served := fun W k hb h9 => by
    have := served_any B f k W ((hb.block B h.lt).trans h)
    rwa [show got f 31 0 8 (k : Int) = f (k + 31) by unfold got withinB; rw [if_pos (by simp; omega)]; congr 1; omega] at this
  rest := fun W hb => (rest_any B f W ((hb.block B h.lt).trans h)).mono fun _ _ ⟨he, n, hw⟩ => ⟨he, hw ▸ below_drewN (Below.refl _ _) n⟩
  size := fun i => itoaB_le _ (hf i)
  fmt := fun W i hb _ _ => formatInt_any _ (hf i) W (ht.below hb)
end Go.Proofs.YteejogoiikmlgaaGreatDoor.Serv
