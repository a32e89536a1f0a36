/-
  frame.known, Put: the walks: what each returns for every frame whose body is shorter than 2^47 bytes.
-/
import Derived.Test.YtojkoedkecnccaaDoorRef07
import Derived.Laws.ResultCell
namespace Go.Proofs.YtojkoedkecnccaaDoor.Frame
open Go.RowKit Go.Proofs.YtojkoedkecnccaaDoor.Pad
set_option linter.unusedVariables false
set_option linter.unusedSimpArgs false

def knownB (k : Int) : Bool := decide (1 ≤ k) && decide (k ≤ 9)

set_option maxHeartbeats 400000 in
theorem known_any (k : Int) (w : World) : Calls Tryd.prog 70 #[.int .i64 k] w fun e w' => e = .returned (.bool (knownB k)) ∧ w = w' := by
  by_cases h1 : 1 ≤ k
  · have hz : Hid (knownB k = decide (k ≤ 9)) := by show _ = _; unfold knownB; rw [decide_eq_true h1]; rfl
    generalize knownB k = z at hz
    go_enter Tryd.func70, Tryd.ntmps70
    go_wp2
    go_ret
    exact ⟨by rw [hz.out]; rfl, rfl⟩
  · have hz : Hid (knownB k = false) := by show _ = _; unfold knownB; rw [decide_eq_false h1]; rfl
    generalize knownB k = z at hz
    go_enter Tryd.func70, Tryd.ntmps70
    go_wp2
    go_ret
    exact ⟨by rw [hz.out]; rfl, rfl⟩

theorem conv4 (W : World) (b : Nat) (x y z u : Int) (h0 : W.cell? ⟨b, 0, none⟩ = some (.int .u8 x)) (h1 : W.cell? ⟨b, 1, none⟩ = some (.int .u8 y)) (h2 : W.cell? ⟨b, 2, none⟩ = some (.int .u8 z)) (h3 : W.cell? ⟨b, 3, none⟩ = some (.int .u8 u)) :
    (convert 50 9 (.slice (some ⟨b, 0, none⟩) 4 4)).run Tryd.prog W = .ok (.string ⟨#[UInt8.ofNat x.toNat, UInt8.ofNat y.toNat, UInt8.ofNat z.toNat, UInt8.ofNat u.toNat]⟩) W := by
  have h := run_convert_bytes_arg (P := Tryd.prog) W 50 5 Tryd.underlying50 Tryd.underlying5 b 0 4 4 [x, y, z, u] rfl (fun i hi => by
    match i, hi with
    | 0, _ => exact h0
    | 1, _ => exact h1
    | 2, _ => exact h2
    | 3, _ => exact h3) 9 Tryd.underlying9
  rw [h]; rfl

/-- a frame's head -/
def headS (k f : Int) (n : Nat) : ByteArray := ⟨#[UInt8.ofNat (k % 256).toNat, UInt8.ofNat (f % 256).toNat, UInt8.ofNat (n / 256), UInt8.ofNat (n % 256)]⟩

/-- what a frame's bytes are, or why there are none -/
def putV (k f : Int) (b : ByteArray) : ByteArray × Int :=
  if knownB k = false then (⟨#[]⟩, 4) else if f < 0 ∨ 255 < f then (⟨#[]⟩, 1) else if 1024 < b.size then (⟨#[]⟩, 3) else (headS k f b.size ++ b, 0)

set_option maxRecDepth 100000 in
set_option maxHeartbeats 1000000 in
theorem put_any (k f : Int) (b : ByteArray) (w : World) (hb : b.size ≤ 140737488351232) :
    Calls Tryd.prog 41 #[.agg #[.int .i64 k, .int .i64 f, .string b]] w fun e w' => e = .returned (.tuple #[.string (putV k f b).1, .int .i64 (putV k f b).2]) ∧ Below w.heap.size w w' := by
  have hk := fun x => known_any k x
  cases hkb : knownB k with
  | false =>
    have hz : Hid (putV k f b = (⟨#[]⟩, 4)) := by show _ = _; unfold putV; rw [if_pos hkb]
    rw [hkb] at hk
    generalize putV k f b = z at hz
    go_enter Tryd.func41, Tryd.ntmps41
    go_wp2_with (go_at_call 70; refine (hk _).mono ?_; rintro e w1 ⟨rfl, rfl⟩)
    go_ret2
    exact ⟨by rw [hz.out]; rfl, (Below.refl _ _).alloc (Nat.le_refl _) _⟩
  | true =>
    by_cases hf : f < 0 ∨ 255 < f
    · have hz : Hid (putV k f b = (⟨#[]⟩, 1)) := by show _ = _; unfold putV; rw [if_neg (by rw [hkb]; simp), if_pos hf]
      rw [hkb] at hk
      generalize putV k f b = z at hz
      clear hkb
      rcases hf with hf | hf
      · go_enter Tryd.func41, Tryd.ntmps41
        go_wp2_with (go_at_call 70; refine (hk _).mono ?_; rintro e w1 ⟨rfl, rfl⟩)
        go_ret2
        exact ⟨by rw [hz.out]; rfl, (Below.refl _ _).alloc (Nat.le_refl _) _⟩
      · have hf0 : ¬ f < 0 := by omega
        go_enter Tryd.func41, Tryd.ntmps41
        go_wp2_with (go_at_call 70; refine (hk _).mono ?_; rintro e w1 ⟨rfl, rfl⟩)
        go_ret2
        exact ⟨by rw [hz.out]; rfl, (Below.refl _ _).alloc (Nat.le_refl _) _⟩
    · have hf0 : ¬ f < 0 := by omega
      have hf1 : ¬ 255 < f := by omega
      by_cases hl : 1024 < b.size
      · have hz : Hid (putV k f b = (⟨#[]⟩, 3)) := by show _ = _; unfold putV; rw [if_neg (by rw [hkb]; simp), if_neg hf, if_pos hl]
        rw [hkb] at hk
        have hl' : (1024 : Int) < (b.size : Int) := by omega
        generalize putV k f b = z at hz
        clear hkb hf
        go_enter Tryd.func41, Tryd.ntmps41
        go_wp2_with (go_at_call 70; refine (hk _).mono ?_; rintro e w1 ⟨rfl, rfl⟩)
        go_ret2
        exact ⟨by rw [hz.out]; rfl, (Below.refl _ _).alloc (Nat.le_refl _) _⟩
      · have hz : Hid (putV k f b = (headS k f b.size ++ b, 0)) := by show _ = _; unfold putV; rw [if_neg (by rw [hkb]; simp), if_neg hf, if_neg hl]
        rw [hkb] at hk
        have hl' : ¬ (1024 : Int) < (b.size : Int) := by omega
        have hh : Hid (headS k f b.size = ⟨#[UInt8.ofNat (k % 256).toNat, UInt8.ofNat (f % 256).toNat, UInt8.ofNat (b.size / 256), UInt8.ofNat (b.size % 256)]⟩) := rfl
        generalize putV k f b = z at hz
        generalize headS k f b.size = H at hz hh
        clear hkb hf
        have e1 : IntKind.u8.wrap k = k % 256 := IntKind.wrap_u8 k
        have e2 : IntKind.u8.wrap f = f % 256 := IntKind.wrap_u8 f
        have e3 : IntKind.u8.wrap ((b.size : Int) / 256) = (b.size : Int) / 256 := by rw [IntKind.wrap_u8]; omega
        have e4 : IntKind.u8.wrap (b.size : Int) = (b.size : Int) % 256 := IntKind.wrap_u8 _
        have kc := fun (W : World) bk h0 h1 h2 h3 => conv4 W bk (k % 256) (f % 256) ((b.size : Int) / 256) ((b.size : Int) % 256) h0 h1 h2 h3
        go_enter Tryd.func41, Tryd.ntmps41
        go_wp2_with (go_at_call 70; refine (hk _).mono ?_; rintro e w1 ⟨rfl, rfl⟩)
        go_quiet (fail)
        go_wp2
        go_ret2
        refine ⟨by rw [hz.out, hh.out]; rfl, ?_⟩
        repeat (first | exact Below.refl _ _ | apply below_drewN | apply Below.drew | refine Below.setCell ?_ (by simp) _ | refine Below.alloc ?_ (by simp) _)
end Go.Proofs.YtojkoedkecnccaaDoor.Frame
