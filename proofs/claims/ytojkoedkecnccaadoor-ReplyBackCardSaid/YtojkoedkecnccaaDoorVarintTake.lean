/-
  varint.Take: the walk: what it returns for all bytes shorter than 2^47.
-/
import Derived.Test.YtojkoedkecnccaaDoorVarint
namespace Go.Proofs.YtojkoedkecnccaaDoor.Varint
open Go.RowKit
set_option linter.unusedVariables false
set_option linter.unusedSimpArgs false

def byt (b : ByteArray) (i : Nat) : Nat := (b.get! i).toNat
theorem byt_lt (b : ByteArray) (i : Nat) : byt b i < 256 := UInt8.toNat_lt _
theorem byt_at (b : ByteArray) (i : Nat) (h : i < b.size) : (b[i]'h).toNat = byt b i := by unfold byt; simp [ByteArray.get!, getElem!_pos, h]; rfl

/-- the number with whose bytes a text begins, from a place on: the number, how many bytes, and the error -/
def tkF (b : ByteArray) : Nat → Nat → Nat → Nat × Nat × Nat
  | 0, _, _ => (0, 0, 2)
  | f + 1, i, acc =>
    if i < b.size then
      if (i = 9 ∧ 1 < byt b i) ∨ (byt b i = 0 ∧ 0 < i) then (0, 0, 1)
      else if byt b i < 128 then (acc + byt b i % 128 * 128 ^ i, i + 1, 0)
      else tkF b f (i + 1) (acc + byt b i % 128 * 128 ^ i)
    else (0, 0, 2)
def takeV (b : ByteArray) : Nat × Nat × Nat := tkF b 10 0 0

theorem u64_wraps (n : Int) (h0 : 0 ≤ n) (h1 : n < 2 ^ 64) : IntKind.u64.wrap n = n := by rw [IntKind.wrap_u64]; omega

theorem or_step (acc c i : Nat) (ha : acc < 128 ^ i) (hi : i < 10) (hc : c < 128) (h9 : i = 9 → c ≤ 1) :
    bits BinOp.or IntKind.u64 (acc : Int) (IntKind.u64.wrap ((c : Int) * 2 ^ (7 * i))) = ((acc + c * 128 ^ i : Nat) : Int) ∧ acc + c * 128 ^ i < 2 ^ 64 := by
  have hp : (128 : Nat) ^ i = 2 ^ (7 * i) := by rw [show (128 : Nat) = 2 ^ 7 from rfl, ← Nat.pow_mul]
  rw [hp] at ha ⊢
  have hx : c * 2 ^ (7 * i) + 2 ^ (7 * i) ≤ 2 ^ 64 := by
    have e : c * 2 ^ (7 * i) + 2 ^ (7 * i) = (c + 1) * 2 ^ (7 * i) := by rw [Nat.add_mul, Nat.one_mul]
    rw [e]
    by_cases h : i = 9
    · subst h
      have := h9 rfl
      calc (c + 1) * 2 ^ (7 * 9) ≤ 2 * 2 ^ (7 * 9) := Nat.mul_le_mul_right _ (by omega)
        _ = 2 ^ 64 := by decide
    · have h7 : 2 ^ (7 * i) ≤ 2 ^ 56 := Nat.pow_le_pow_right (by decide) (by omega)
      calc (c + 1) * 2 ^ (7 * i) ≤ 128 * 2 ^ 56 := Nat.mul_le_mul (by omega) h7
        _ ≤ 2 ^ 64 := by decide
  have hcast : ((c : Int) * 2 ^ (7 * i)) = ((c * 2 ^ (7 * i) : Nat) : Int) := by simp
  have hpos : 0 < 2 ^ (7 * i) := Nat.two_pow_pos _
  have hlt : c * 2 ^ (7 * i) < 2 ^ 64 := by omega
  have hlti : ((c * 2 ^ (7 * i) : Nat) : Int) < 2 ^ 64 := by exact_mod_cast hlt
  rw [hcast, u64_wraps _ (Int.natCast_nonneg _) hlti, (bits_nat .u64 64 (by decide) u64_wraps acc (c * 2 ^ (7 * i)) (by omega) hlt).2]
  constructor
  · congr 1
    rw [Nat.or_comm, Nat.mul_comm, ← Nat.two_pow_add_eq_or_of_lt ha c]
    omega
  · omega

theorem and127 (c : Nat) (h : c < 256) : bits .and .u8 (c : Int) 127 = ((c % 128 : Nat) : Int) := by
  rw [show (127 : Int) = ((127 : Nat) : Int) from rfl, u8_and_nat c 127 h (by omega)]
  rw [show (127 : Nat) = 2 ^ 7 - 1 from rfl, Nat.and_two_pow_sub_one_eq_mod]

theorem tk_step (b : ByteArray) (i acc : Nat) (h1 : i < b.size) (h2 : i < 10) :
    tkF b (10 - i) i acc = if (i = 9 ∧ 1 < byt b i) ∨ (byt b i = 0 ∧ 0 < i) then (0, 0, 1)
      else if byt b i < 128 then (acc + byt b i % 128 * 128 ^ i, i + 1, 0) else tkF b (10 - (i + 1)) (i + 1) (acc + byt b i % 128 * 128 ^ i) := by
  obtain ⟨f, hf⟩ : ∃ f, 10 - i = f + 1 := ⟨9 - i, by omega⟩
  rw [hf, show 10 - (i + 1) = f by omega]
  simp only [tkF]
  rw [if_pos h1]

set_option maxRecDepth 100000 in
set_option maxHeartbeats 4000000 in
theorem take_any (b : ByteArray) (w : World) (hb : b.size ≤ 140737488351232) :
    Calls Tryd.prog 74 #[.string b] w fun e w' => e = .returned (.tuple #[.int .u64 (takeV b).1, .int .i64 (takeV b).2.1, .int .i64 (takeV b).2.2]) ∧ w = w' := by
  generalize hV : takeV b = V
  have hV' : Hid (tkF b 10 0 0 = V) := hV
  clear hV
  go_enter Tryd.func74, Tryd.ntmps74
  go_wp2
  go_loop [5, 11] (fun nv iv => ∃ (i acc : Nat), iv = .int .i64 i ∧ nv = .int .u64 acc ∧ i ≤ 10 ∧ Hid (acc < 128 ^ i) ∧ Hid (tkF b (10 - i) i acc = V)) (fun _ iv => 10 - (intOf iv).toNat)
  case atStart => exact ⟨0, 0, rfl, rfl, by omega, by show 0 < 128 ^ 0; decide, hV'⟩
  case round =>
    obtain ⟨i, acc, rfl, rfl, hi, hacc, hv⟩ := hrel
    by_cases hlt : i < b.size ∧ i < 10
    · obtain ⟨h1, h2⟩ := hlt
      have hlt' : (i : Int) < min (b.size : Int) 10 := by omega
      have g := byt_at b i h1
      have l := byt_lt b i
      have hst : Hid ((if (i = 9 ∧ 1 < byt b i) ∨ (byt b i = 0 ∧ 0 < i) then (0, 0, 1)
        else if byt b i < 128 then (acc + byt b i % 128 * 128 ^ i, i + 1, 0) else tkF b (10 - (i + 1)) (i + 1) (acc + byt b i % 128 * 128 ^ i)) = V) := by
        show _ = V
        rw [← hv.out, tk_step b i acc h1 h2]
      have a1 := and127 (byt b i) l
      have ho : ¬ (i = 9 ∧ 1 < byt b i) → Hid (bits BinOp.or IntKind.u64 (acc : Int) (IntKind.u64.wrap ((byt b i : Int) % 128 * 2 ^ (7 * i))) = ((acc + byt b i % 128 * 128 ^ i : Nat) : Int) ∧ acc + byt b i % 128 * 128 ^ i < 2 ^ 64) :=
        fun h => by
          have q := or_step acc (byt b i % 128) i hacc.out h2 (by omega) (fun h9 => by have : ¬ 1 < byt b i := fun x => h ⟨h9, x⟩; omega)
          rw [show ((byt b i % 128 : Nat) : Int) = (byt b i : Int) % 128 by omega] at q
          exact q
      clear hv
      generalize byt b i = c at g l hst a1 ho
      by_cases h9 : i = 9
      · have h9' : ((i : Int) == 9) = true := beq_iff_eq.2 (by omega)
        by_cases hc1 : 1 < c
        · have hz : Hid (V = (0, 0, 1)) := by show V = _; rw [← hst.out, if_pos (.inl ⟨h9, hc1⟩)]
          clear ho hst h9
          go_wp2
          go_ret3
          exact ⟨by rw [hz.out]; rfl, rfl⟩
        · by_cases h0 : c = 0
          · have h0' : ((c : Int) == 0) = true := beq_iff_eq.2 (by omega)
            have hz : Hid (V = (0, 0, 1)) := by show V = _; rw [← hst.out, if_pos (.inr ⟨h0, by omega⟩)]
            have hi0 : 0 < (i : Int) := by omega
            have hcl : ¬ (1 : Int) < (c : Int) := by omega
            clear ho hst h9 h0
            go_wp2
            go_ret3
            exact ⟨by rw [hz.out]; rfl, rfl⟩
          · have h0' : ((c : Int) == 0) = false := beq_eq_false_iff_ne.2 (by omega)
            have hz : Hid (V = (acc + c % 128 * 128 ^ i, i + 1, 0)) := by show V = _; rw [← hst.out, if_neg (by omega), if_pos (by omega)]
            have hor := (ho (by omega)).out.1
            have hcl : ¬ (1 : Int) < (c : Int) := by omega
            have hc8 : (c : Int) < 128 := by omega
            generalize acc + c % 128 * 128 ^ i = acc' at hor hz
            clear ho hst h9
            go_wp2
            go_ret3
            exact ⟨by rw [hz.out]; rfl, rfl⟩
      · have h9' : ((i : Int) == 9) = false := beq_eq_false_iff_ne.2 (by omega)
        by_cases h0 : c = 0
        · have h0' : ((c : Int) == 0) = true := beq_iff_eq.2 (by omega)
          by_cases hi0 : 0 < i
          · have hz : Hid (V = (0, 0, 1)) := by show V = _; rw [← hst.out, if_pos (.inr ⟨h0, hi0⟩)]
            have hi0' : 0 < (i : Int) := by omega
            clear ho hst h9 h0
            go_wp2
            go_ret3
            exact ⟨by rw [hz.out]; rfl, rfl⟩
          · have hz : Hid (V = (acc + c % 128 * 128 ^ i, i + 1, 0)) := by show V = _; rw [← hst.out, if_neg (by omega), if_pos (by omega)]
            have hor := (ho (by omega)).out.1
            have hi0' : ¬ 0 < (i : Int) := by omega
            have hc8 : (c : Int) < 128 := by omega
            generalize acc + c % 128 * 128 ^ i = acc' at hor hz
            clear ho hst h9 h0
            go_wp2
            go_ret3
            exact ⟨by rw [hz.out]; rfl, rfl⟩
        · have h0' : ((c : Int) == 0) = false := beq_eq_false_iff_ne.2 (by omega)
          have hor := (ho (by omega)).out
          by_cases hc8 : c < 128
          · have hz : Hid (V = (acc + c % 128 * 128 ^ i, i + 1, 0)) := by show V = _; rw [← hst.out, if_neg (by omega), if_pos hc8]
            have hor1 := hor.1
            have hc8' : (c : Int) < 128 := by omega
            generalize acc + c % 128 * 128 ^ i = acc' at hor1 hz
            clear ho hst h9 h0 hor
            go_wp2
            go_ret3
            exact ⟨by rw [hz.out]; rfl, rfl⟩
          · have hz : Hid (tkF b (10 - (i + 1)) (i + 1) (acc + c % 128 * 128 ^ i) = V) := by show _ = V; rw [← hst.out, if_neg (by omega), if_neg hc8]
            have hor1 := hor.1
            have hacc2 : Hid (acc + c % 128 * 128 ^ i < 128 ^ (i + 1)) := by
              show _ < _
              have := hacc.out
              rw [Nat.pow_succ]
              have h3 : c % 128 * 128 ^ i ≤ 127 * 128 ^ i := Nat.mul_le_mul_right _ (by omega)
              omega
            have hc8' : ¬ (c : Int) < 128 := by omega
            generalize acc + c % 128 * 128 ^ i = acc' at hor1 hz hacc2
            clear ho hst h9 h0 hor
            go_wp2
            go_round
            case rel => exact ⟨i + 1, acc', by go_num, rfl, by omega, hacc2, hz⟩
            case measure => simp [intOf]; omega
    · have hlt' : ¬ (i : Int) < min (b.size : Int) 10 := by omega
      have hz : Hid (V = (0, 0, 2)) := by
        show V = _
        rw [← hv.out]
        cases hf : 10 - i with
        | zero => rfl
        | succ f => simp only [tkF]; rw [if_neg (by omega)]
      clear hv
      go_wp2
      go_ret3
      exact ⟨by rw [hz.out]; rfl, rfl⟩
end Go.Proofs.YtojkoedkecnccaaDoor.Varint
