/-
  tally: where things are counted: the walks of the small functions.
-/
import Derived.Test.YteejogoiikmlgaaGreatDoorProg
import Derived.WalkKit
import Derived.Outline
import Derived.Below
import Derived.Lib.Hide
import Derived.WalkSpells
import Derived.Laws.Pointers
import Derived.Laws.LoneSync
import Derived.IntWalk
namespace Go.Proofs.YteejogoiikmlgaaGreatDoor.Tally
open Go.RowKit
set_option linter.unusedVariables false
set_option linter.unusedSimpArgs false

def withinB (n a b : Int) : Bool := decide (a ≤ n) && decide (n ≤ b)

theorem within_any (n a b : Int) (w : World) : Calls Tryz.prog 42 #[.int .i64 n, .int .i64 a, .int .i64 b] w fun e w' => e = .returned (.bool (withinB n a b)) ∧ w = w' := by
  by_cases h : a ≤ n
  · by_cases h2 : n ≤ b
    · have hz : Hid (withinB n a b = true) := by show _ = _; unfold withinB; simp [h, h2]
      generalize withinB n a b = z at hz
      go_enter Tryz.func42, Tryz.ntmps42
      go_wp2
      go_ret
      exact ⟨by rw [hz.out]; rfl, rfl⟩
    · have hz : Hid (withinB n a b = false) := by show _ = _; unfold withinB; simp [h2]
      generalize withinB n a b = z at hz
      go_enter Tryz.func42, Tryz.ntmps42
      go_wp2
      go_ret
      exact ⟨by rw [hz.out]; rfl, rfl⟩
  · have hz : Hid (withinB n a b = false) := by show _ = _; unfold withinB; simp [h]
    generalize withinB n a b = z at hz
    go_enter Tryz.func42, Tryz.ntmps42
    go_wp2
    go_ret
    exact ⟨by rw [hz.out]; rfl, rfl⟩

/-- sync/atomic's Int64: what is loaded -/
theorem load64 (b o : Nat) (x : Int) (w : World) (h : w.cell? ⟨b, o, none⟩ = some (.int .i64 x)) :
    Calls Tryz.prog 32 #[.pointer (some ⟨b, o, none⟩)] w fun e w' => e = .returned (.int .i64 x) ∧ w = w' := by
  have hl := run_call_load (P := Tryz.prog) Tryz.func46 (by kernel_rfl) (by kernel_rfl) (by kernel_rfl) .i64 (by kernel_rfl) h
  go_enter Tryz.func32, Tryz.ntmps32
  go_wp2
  go_ret
  exact ⟨rfl, rfl⟩

theorem add64 (b o : Nat) (x y s : Int) (w : World) (h : w.cell? ⟨b, o, none⟩ = some (.int .i64 x)) (hf : w.frozen? ⟨b, o, none⟩ = false) (hs : IntKind.i64.wrap (x + y) = s) :
    Calls Tryz.prog 26 #[.pointer (some ⟨b, o, none⟩), .int .i64 y] w fun e w' => e = .returned (.int .i64 s) ∧ w.setCell ⟨b, o, none⟩ (.int .i64 s) = w' := by
  have hl := run_call_add (P := Tryz.prog) Tryz.func43 (by kernel_rfl) (by kernel_rfl) (by kernel_rfl) .i64 (by kernel_rfl) (y := y) (s := s) h hf (by simp [go_sem, hs])
  clear hs
  go_enter Tryz.func26, Tryz.ntmps26
  go_wp2
  go_ret
  exact ⟨rfl, rfl⟩

theorem load_nil (w : World) : Calls Tryz.prog 31 #[.pointer none] w fun e w' => e = .returned (.int .i64 0) ∧ w = w' := by
  go_enter Tryz.func31, Tryz.ntmps31
  go_wp2
  go_ret
  exact ⟨rfl, rfl⟩
theorem load_some (b o : Nat) (x : Int) (w : World) (h : w.cell? ⟨b, o, none⟩ = some (.int .i64 x)) :
    Calls Tryz.prog 31 #[.pointer (some ⟨b, o, none⟩)] w fun e w' => e = .returned (.int .i64 x) ∧ w = w' := by
  go_enter Tryz.func31, Tryz.ntmps31
  go_wp2_with (go_at_call 32; refine (load64 b o x _ h).mono ?_; rintro e w' ⟨rfl, rfl⟩)
  go_ret
  exact ⟨rfl, rfl⟩

theorem add_nil (y : Int) (w : World) : Calls Tryz.prog 22 #[.pointer none, .int .i64 y] w fun e w' => e = .returned (.tuple #[]) ∧ w = w' := by
  go_enter Tryz.func22, Tryz.ntmps22
  go_wp2
  go_end0
  exact ⟨rfl, rfl⟩
theorem add_some (b o : Nat) (x y s : Int) (w : World) (h : w.cell? ⟨b, o, none⟩ = some (.int .i64 x)) (hf : w.frozen? ⟨b, o, none⟩ = false) (hs : IntKind.i64.wrap (x + y) = s) :
    Calls Tryz.prog 22 #[.pointer (some ⟨b, o, none⟩), .int .i64 y] w fun e w' => e = .returned (.tuple #[]) ∧ w.setCell ⟨b, o, none⟩ (.int .i64 s) = w' := by
  have ha := add64 b o x y s w h hf hs
  clear hs
  go_enter Tryz.func22, Tryz.ntmps22
  go_wp2_with (go_at_call 26; refine ha.mono ?_; rintro e w' ⟨rfl, rfl⟩)
  go_end0
  exact ⟨rfl, rfl⟩

theorem kind_nil (k : Int) (w : World) : Calls Tryz.prog 23 #[.pointer none, .int .i64 k] w fun e w' => e = .returned (.pointer none) ∧ w = w' := by
  go_enter Tryz.func23, Tryz.ntmps23
  go_wp2
  go_ret
  exact ⟨rfl, rfl⟩
theorem error_nil (k : Int) (w : World) : Calls Tryz.prog 24 #[.pointer none, .int .i64 k] w fun e w' => e = .returned (.pointer none) ∧ w = w' := by
  go_enter Tryz.func24, Tryz.ntmps24
  go_wp2
  go_ret
  exact ⟨rfl, rfl⟩
theorem owner_nil (k : Int) (w : World) : Calls Tryz.prog 25 #[.pointer none, .int .i64 k] w fun e w' => e = .returned (.pointer none) ∧ w = w' := by
  go_enter Tryz.func25, Tryz.ntmps25
  go_wp2
  go_ret
  exact ⟨rfl, rfl⟩

/-- a tally at block B: what is counted at each of its 44 places -/
def tcells (f : Nat → Int) : Array Value := ((List.range 44).map fun i => Value.int .i64 (f i)).toArray
def Tal (B : Nat) (f : Nat → Int) (W : World) : Prop := W.heap[B]? = some (.cells (tcells f) 55 (0, 0))
theorem Tal.lt {B : Nat} {f : Nat → Int} {W : World} (h : Tal B f W) : B < W.heap.size := lt_of_block h
theorem Tal.grown {B : Nat} {f : Nat → Int} {W W' : World} {row : Option Nat} (h : Tal B f W) (hg : W.grownBy W' row) (hr : some B ≠ row) : Tal B f W' := (hg.block B h.lt hr).trans h
theorem Tal.below {B : Nat} {f : Nat → Int} {W W' : World} (h : Tal B f W) (hb : Below W.heap.size W W') : Tal B f W' := (hb.block B h.lt).trans h
theorem tcells_get (f : Nat → Int) (i : Nat) (hi : i < 44) : (tcells f)[i]? = some (.int .i64 (f i)) := by
  unfold tcells
  simp [hi]
theorem Tal.cell {B : Nat} {f : Nat → Int} {W : World} (h : Tal B f W) (i : Nat) (hi : i < 44) : W.cell? ⟨B, i, none⟩ = some (.int .i64 (f i)) := by
  unfold Tal at h
  have := tcells_get f i hi
  simp [World.cell?, h, this]
theorem Tal.free {B : Nat} {f : Nat → Int} {W : World} (h : Tal B f W) (o : Nat) : W.frozen? ⟨B, o, none⟩ = false := by
  unfold Tal at h
  simp [World.frozen?, h]
/-- one place is another number now -/
def put (f : Nat → Int) (i : Nat) (v : Int) : Nat → Int := fun j => if j = i then v else f j
theorem tcells_put (f : Nat → Int) (i : Nat) (v : Int) : (tcells f).setIfInBounds i (.int .i64 v) = tcells (put f i v) := by
  apply Array.ext_getElem?
  intro j
  rw [Array.getElem?_setIfInBounds]
  unfold tcells put
  by_cases hj : j < 44
  · by_cases e : i = j
    · subst e
      simp [hj]
    · have e' : ¬ j = i := fun h => e h.symm
      simp [hj, e, e']
  · by_cases e : i = j
    · subst e
      simp [hj]
    · simp [hj, e]
theorem Tal.put {B : Nat} {f : Nat → Int} {W : World} (h : Tal B f W) (i : Nat) (v : Int) : Tal B (put f i v) (W.setCell ⟨B, i, none⟩ (.int .i64 v)) := by
  unfold Tal at h ⊢
  rw [setCell_eq_setRow W B i _ _ _ _ h, setRow_heap W B _ _ _ _ h, tcells_put]

/-- nothing counted -/
def zero : Nat → Int := fun _ => 0

theorem new_any (w : World) : Calls Tryz.prog 7 #[] w fun e w' => e = .returned (.pointer (some ⟨w.heap.size, 0, none⟩)) ∧ Tal w.heap.size zero w' ∧ Below w.heap.size w w' := by
  go_enter Tryz.func7, Tryz.ntmps7
  go_wp2
  go_ret
  exact ⟨rfl, heap_alloc_new w _, (Below.refl _ _).alloc (Nat.le_refl _) _⟩

/-- a number's place, or none -/
def place (b base : Nat) (lo hi k : Int) : Value := if withinB k lo hi then .pointer (some ⟨b, base + k.toNat, none⟩) else .pointer none

theorem kind_any (b : Nat) (k : Int) (w : World) : Calls Tryz.prog 23 #[.pointer (some ⟨b, 0, none⟩), .int .i64 k] w fun e w' => e = .returned (place b 0 1 9 k) ∧ w = w' := by
  unfold place
  cases hk : withinB k 1 9 with
  | false =>
    have hw := fun x => within_any k 1 9 x
    rw [hk] at hw
    clear hk
    go_enter Tryz.func23, Tryz.ntmps23
    go_wp2_with (go_at_call 42; refine (hw _).mono ?_; rintro e w' ⟨rfl, rfl⟩)
    go_ret
    exact ⟨rfl, rfl⟩
  | true =>
    have hw := fun x => within_any k 1 9 x
    rw [hk] at hw
    have hb : 1 ≤ k ∧ k ≤ 9 := by unfold withinB at hk; simpa using hk
    obtain ⟨n, rfl⟩ : ∃ n : Nat, k = (n : Int) := ⟨k.toNat, by omega⟩
    have hn : n < 10 := by omega
    have hn' : (n : Int) < 10 := by omega
    clear hk hb
    go_enter Tryz.func23, Tryz.ntmps23
    go_wp2_with (go_at_call 42; refine (hw _).mono ?_; rintro e w' ⟨rfl, rfl⟩)
    go_ret
    exact ⟨by simp, rfl⟩
end Go.Proofs.YteejogoiikmlgaaGreatDoor.Tally
