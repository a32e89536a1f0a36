/-
  (*span.Reader).Int, Num, Rest: the walks.
-/
import Derived.Test.YtojkoedkecnccaaDoorSpanTake
namespace Go.Proofs.YtojkoedkecnccaaDoor.Span
open Go.RowKit Go.Proofs.YtojkoedkecnccaaDoor.Pad Go.Proofs.YtojkoedkecnccaaDoor.Varint
set_option linter.unusedVariables false
set_option linter.unusedSimpArgs false

/-- what is taken ends within the bytes, and is a number of 64 bits -/
theorem tkF_fits (b : ByteArray) : ∀ f i acc n k, tkF b f i acc = (n, k, 0) → k ≤ b.size := by
  intro f
  induction f with
  | zero => intro i acc n k h; simp [tkF] at h
  | succ f ih =>
    intro i acc n k h
    simp only [tkF] at h
    by_cases h1 : i < b.size
    · rw [if_pos h1] at h
      by_cases h2 : (i = 9 ∧ 1 < byt b i) ∨ (byt b i = 0 ∧ 0 < i)
      · rw [if_pos h2] at h; simp at h
      · rw [if_neg h2] at h
        by_cases h3 : byt b i < 128
        · rw [if_pos h3] at h; simp at h; omega
        · rw [if_neg h3] at h; exact ih _ _ _ _ h
    · rw [if_neg h1] at h; simp at h
theorem takeV_fits (b : ByteArray) {n k : Nat} (h : takeV b = (n, k, 0)) : k ≤ b.size := tkF_fits b 10 0 0 n k h
theorem extract_size (b : ByteArray) (i : Nat) : (b.extract i b.size).size = b.size - i := by simp

theorem int_right (B : Nat) (b : ByteArray) (i n k most : Nat) (w : World) (h : Rd B b i 0 w) (hi : i ≤ b.size) (hb : b.size ≤ 140737488351232) (hm : most ≤ 1048576) (hv : intV (b.extract i b.size) most = (n, k, 0)) (hk : i + k ≤ b.size) (hn : n ≤ most) :
    Calls Tryd.prog 44 #[.pointer (some ⟨B, 0, none⟩), .int .i64 most] w fun r w' => r = .returned (.int .i64 n) ∧ Rd B b ((i + k : Nat) : Int) 0 w' ∧ Below B w w' := by
  have hB := h.lt
  have hf := fun W hmc => intf_any (b.extract i b.size) w.heap.size most W (by rw [extract_size]; omega) hmc (World.block_lt_of_cell? W _ hmc) hm
  rw [hv] at hf
  have hw : IntKind.i64.wrap (n : Int) = (n : Int) := IntWalk.i64_in _ (by omega)
  have ht := take_int_right B b i n k (w.alloc (.cells #[.int .i64 most] 3)) (h.below ((Below.refl _ _).alloc (Nat.le_refl _) _)) hi hb w.heap.size most (by simp [go_sem]) hk (fun W hmc => by
    have := hf W hmc
    rw [hw] at this
    exact this)
  go_enter Tryd.func44, Tryd.ntmps44
  go_wp2_with (go_at_call 72; refine ht.mono ?_; rintro r w1 ⟨rfl, g1, g2⟩)
  go_ret
  exact ⟨rfl, g1, ((Below.refl _ _).alloc (Nat.le_of_lt hB) _).trans g2⟩

theorem int_wrong (B : Nat) (b : ByteArray) (i n k e most : Nat) (w : World) (h : Rd B b i 0 w) (hi : i ≤ b.size) (hb : b.size ≤ 140737488351232) (hm : most ≤ 1048576) (hv : intV (b.extract i b.size) most = (n, k, e)) (he : e ≠ 0) :
    Calls Tryd.prog 44 #[.pointer (some ⟨B, 0, none⟩), .int .i64 most] w fun r w' => r = .returned (.int .i64 0) ∧ Rd B b i e w' ∧ Below B w w' := by
  have hB := h.lt
  have hf := fun W hmc => intf_any (b.extract i b.size) w.heap.size most W (by rw [extract_size]; omega) hmc (World.block_lt_of_cell? W _ hmc) hm
  rw [hv] at hf
  have ht := take_int_wrong B b i (IntKind.i64.wrap (n : Int)) k e (w.alloc (.cells #[.int .i64 most] 3)) (h.below ((Below.refl _ _).alloc (Nat.le_refl _) _)) hi hb w.heap.size most (by simp [go_sem]) (by omega) (fun W hmc => hf W hmc)
  go_enter Tryd.func44, Tryd.ntmps44
  go_wp2_with (go_at_call 72; refine ht.mono ?_; rintro r w1 ⟨rfl, g1, g2⟩)
  go_ret
  exact ⟨rfl, g1, ((Below.refl _ _).alloc (Nat.le_of_lt hB) _).trans g2⟩

theorem num_right (B : Nat) (b : ByteArray) (i n k : Nat) (w : World) (h : Rd B b i 0 w) (hi : i ≤ b.size) (hb : b.size ≤ 140737488351232) (hv : takeV (b.extract i b.size) = (n, k, 0)) :
    Calls Tryd.prog 45 #[.pointer (some ⟨B, 0, none⟩)] w fun r w' => r = .returned (.int .u64 n) ∧ Rd B b ((i + k : Nat) : Int) 0 w' ∧ Below B w w' := by
  have hk := takeV_fits _ hv
  rw [extract_size] at hk
  have hf := fun W => Varint.take_any (b.extract i b.size) W (by rw [extract_size]; omega)
  rw [hv] at hf
  have ht := take_num_right B b i n k w h hi hb (by omega) hf
  go_enter Tryd.func45, Tryd.ntmps45
  go_wp2_with (go_at_call 75; refine ht.mono ?_; rintro r w1 ⟨rfl, g1, g2⟩)
  go_ret
  exact ⟨rfl, g1, g2⟩

theorem num_wrong (B : Nat) (b : ByteArray) (i n k e : Nat) (w : World) (h : Rd B b i 0 w) (hi : i ≤ b.size) (hb : b.size ≤ 140737488351232) (hv : takeV (b.extract i b.size) = (n, k, e)) (he : e ≠ 0) :
    Calls Tryd.prog 45 #[.pointer (some ⟨B, 0, none⟩)] w fun r w' => r = .returned (.int .u64 0) ∧ Rd B b i e w' ∧ Below B w w' := by
  have hf := fun W => Varint.take_any (b.extract i b.size) W (by rw [extract_size]; omega)
  rw [hv] at hf
  have ht := take_num_wrong B b i n k e w h hi hb (by omega) hf
  go_enter Tryd.func45, Tryd.ntmps45
  go_wp2_with (go_at_call 75; refine ht.mono ?_; rintro r w1 ⟨rfl, g1, g2⟩)
  go_ret
  exact ⟨rfl, g1, g2⟩

theorem num_bad (B : Nat) (b : ByteArray) (i e : Int) (w : World) (h : Rd B b i e w) (he : e ≠ 0) :
    Calls Tryd.prog 45 #[.pointer (some ⟨B, 0, none⟩)] w fun r w' => r = .returned (.int .u64 0) ∧ w = w' := by
  have ht := take_num_bad B b i e w h he
  go_enter Tryd.func45, Tryd.ntmps45
  go_wp2_with (go_at_call 75; refine ht.mono ?_; rintro r w1 ⟨rfl, rfl⟩)
  go_ret
  exact ⟨rfl, rfl⟩

theorem rest_right (B : Nat) (b : ByteArray) (i : Nat) (w : World) (h : Rd B b i 0 w) (hi : i ≤ b.size) (hb : b.size ≤ 140737488351232) :
    Calls Tryd.prog 46 #[.pointer (some ⟨B, 0, none⟩)] w fun r w' => r = .returned (.string (b.extract i b.size)) ∧ Rd B b (b.size : Int) 0 w' ∧ Below B w w' := by
  have hf := fun W => restf_any (b.extract i b.size) W
  have hs := extract_size b i
  have ht := take_rest_right B b i (b.extract i b.size) (b.extract i b.size).size w h hi hb (by omega) hf
  rw [show i + (b.extract i b.size).size = b.size by omega] at ht
  go_enter Tryd.func46, Tryd.ntmps46
  go_wp2_with (go_at_call 76; refine ht.mono ?_; rintro r w1 ⟨rfl, g1, g2⟩)
  go_ret
  exact ⟨rfl, g1, g2⟩

theorem rest_bad (B : Nat) (b : ByteArray) (i e : Int) (w : World) (h : Rd B b i e w) (he : e ≠ 0) :
    Calls Tryd.prog 46 #[.pointer (some ⟨B, 0, none⟩)] w fun r w' => r = .returned (.string ⟨#[]⟩) ∧ w = w' := by
  have ht := take_rest_bad B b i e w h he
  go_enter Tryd.func46, Tryd.ntmps46
  go_wp2_with (go_at_call 76; refine ht.mono ?_; rintro r w1 ⟨rfl, rfl⟩)
  go_ret
  exact ⟨rfl, rfl⟩
end Go.Proofs.YtojkoedkecnccaaDoor.Span
