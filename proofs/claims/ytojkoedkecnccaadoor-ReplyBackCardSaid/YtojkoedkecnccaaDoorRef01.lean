/-
  The document's answer of layer 1 (Take): the walk: what it returns, in the words of the program's own.
-/
import Derived.Test.YtojkoedkecnccaaDoorVarintTake
import Derived.Test.YtojkoedkecnccaaDoorRef01Put
namespace Go.Proofs.YtojkoedkecnccaaDoor.Varint
open Go.RowKit Go.Proofs.YtojkoedkecnccaaDoor.Pad
set_option linter.unusedVariables false
set_option linter.unusedSimpArgs false

theorem add_step (acc c i : Nat) (ha : acc < 128 ^ i) (hi : i < 10) (hc : c < 128) (h9 : i = 9 → c ≤ 1) :
    IntKind.u64.wrap ((c : Int) * ((128 ^ i : Nat) : Int)) = ((c * 128 ^ i : Nat) : Int) ∧ IntKind.u64.wrap ((acc : Int) + ((c * 128 ^ i : Nat) : Int)) = ((acc + c * 128 ^ i : Nat) : Int) := by
  have h := (or_step acc c i ha hi hc h9).2
  have hlti : ((acc + c * 128 ^ i : Nat) : Int) < 2 ^ 64 := by exact_mod_cast h
  have hlti2 : ((c * 128 ^ i : Nat) : Int) < 2 ^ 64 := by have : c * 128 ^ i < 2 ^ 64 := by omega
                                                          exact_mod_cast this
  constructor
  · rw [← Int.natCast_mul, u64_wraps _ (Int.natCast_nonneg _) hlti2]
  · rw [← Int.natCast_add, u64_wraps _ (Int.natCast_nonneg _) hlti]

theorem pow_step (i : Nat) (h : i < 9) : IntKind.u64.wrap (((128 ^ i : Nat) : Int) * 128) = ((128 ^ (i + 1) : Nat) : Int) := by
  have h2 : 128 ^ (i + 1) < 2 ^ 64 := by
    have : (128 : Nat) ^ (i + 1) ≤ 128 ^ 9 := Nat.pow_le_pow_right (by decide) (by omega)
    calc 128 ^ (i + 1) ≤ 128 ^ 9 := this
      _ < 2 ^ 64 := by decide
  have hlti : ((128 ^ (i + 1) : Nat) : Int) < 2 ^ 64 := by exact_mod_cast h2
  rw [show (((128 ^ i : Nat) : Int) * 128) = ((128 ^ (i + 1) : Nat) : Int) by rw [Nat.pow_succ]; simp, u64_wraps _ (Int.natCast_nonneg _) hlti]

set_option maxRecDepth 100000 in
set_option maxHeartbeats 4000000 in
theorem takeR_any (b : ByteArray) (w : World) (hb : b.size ≤ 140737488351232) :
    Calls Tryd.prog 50 #[.string b] w fun e w' => e = .returned (.tuple #[.int .u64 (takeV b).1, .int .i64 (takeV b).2.1, .int .i64 (takeV b).2.2]) ∧ w = w' := by
  generalize hV : takeV b = V
  have hV' : Hid (tkF b 10 0 0 = V) := hV
  clear hV
  go_enter Tryd.func50, Tryd.ntmps50
  go_wp2
  go_loop [5, 6, 7] (fun nv pv iv => ∃ (i acc p : Nat), iv = .int .i64 i ∧ nv = .int .u64 acc ∧ pv = .int .u64 p ∧ Hid (p = 128 ^ i) ∧ i ≤ 9 ∧ Hid (acc < 128 ^ i) ∧ Hid (tkF b (10 - i) i acc = V)) (fun _ _ iv => 10 - (intOf iv).toNat)
  case atStart => exact ⟨0, 0, 1, rfl, rfl, rfl, by show 1 = 128 ^ 0; decide, by omega, by show 0 < 128 ^ 0; decide, hV'⟩
  case round =>
    obtain ⟨i, acc, p, rfl, rfl, rfl, hp, hi, hacc, hv⟩ := hrel
    have h2 : i < 10 := by omega
    have h2' : (i : Int) < 10 := by omega
    by_cases h1 : i < b.size
    · have h1' : (i : Int) < (b.size : Int) := by omega
      have g := byt_at b i h1
      have l := byt_lt b i
      have hst : Hid ((if (i = 9 ∧ 1 < byt b i) ∨ (byt b i = 0 ∧ 0 < i) then (0, 0, 1)
        else if byt b i < 128 then (acc + byt b i % 128 * 128 ^ i, i + 1, 0) else tkF b (10 - (i + 1)) (i + 1) (acc + byt b i % 128 * 128 ^ i)) = V) := by
        show _ = V
        rw [← hv.out, tk_step b i acc h1 h2]
      have ho : ¬ (i = 9 ∧ 1 < byt b i) → Hid (IntKind.u64.wrap ((byt b i : Int) % 128 * (p : Int)) = ((byt b i % 128 * 128 ^ i : Nat) : Int) ∧ IntKind.u64.wrap ((acc : Int) + ((byt b i % 128 * 128 ^ i : Nat) : Int)) = ((acc + byt b i % 128 * 128 ^ i : Nat) : Int)) :=
        fun h => by
          have q := add_step acc (byt b i % 128) i hacc.out h2 (by omega) (fun h9 => by have : ¬ 1 < byt b i := fun x => h ⟨h9, x⟩; omega)
          rw [show ((byt b i % 128 : Nat) : Int) = (byt b i : Int) % 128 by omega, ← hp.out] at q
          rw [← hp.out]
          exact q
      clear hv
      generalize byt b i = c at g l hst ho
      by_cases hx : (i = 9 ∧ 1 < c) ∨ (c = 0 ∧ 0 < i)
      · have hz : Hid (V = (0, 0, 1)) := by show V = _; rw [← hst.out, if_pos hx]
        by_cases h0 : 0 < i ∧ c = 0
        · obtain ⟨h0, hc0⟩ := h0
          have h0' : (0 : Int) < (i : Int) := by omega
          have hc0' : ((c : Int) == 0) = true := beq_iff_eq.2 (by omega)
          clear ho hst hx hc0
          go_wp2
          go_ret3
          exact ⟨by rw [hz.out]; rfl, rfl⟩
        · have h9 : i = 9 ∧ 1 < c := by omega
          have h0' : (0 : Int) < (i : Int) := by omega
          have hc0' : ((c : Int) == 0) = false := beq_eq_false_iff_ne.2 (by omega)
          have h9' : ((i : Int) == 9) = true := beq_iff_eq.2 (by omega)
          have hc1 : (1 : Int) < (c : Int) := by omega
          clear ho hst hx h0 h9
          go_wp2
          go_ret3
          exact ⟨by rw [hz.out]; rfl, rfl⟩
      · have hq := (ho (fun h => hx (.inl h))).out
        by_cases hc8 : c < 128
        · have hz : Hid (V = (acc + c % 128 * 128 ^ i, i + 1, 0)) := by show V = _; rw [← hst.out, if_neg hx, if_pos hc8]
          have hc8' : (c : Int) < 128 := by omega
          obtain ⟨q1, q2⟩ := hq
          generalize hm1 : c % 128 * 128 ^ i = m at q1 q2 hz
          generalize hm2 : acc + m = acc' at q2 hz
          by_cases h0 : 0 < i
          · have h0' : (0 : Int) < (i : Int) := by omega
            have hc0' : ((c : Int) == 0) = false := beq_eq_false_iff_ne.2 (by omega)
            by_cases h9 : i = 9
            · have h9' : ((i : Int) == 9) = true := beq_iff_eq.2 (by omega)
              have hc1 : ¬ (1 : Int) < (c : Int) := by omega
              clear ho hst hx hm1 hm2 h9
              go_wp2
              go_ret3
              exact ⟨by rw [hz.out]; rfl, rfl⟩
            · have h9' : ((i : Int) == 9) = false := beq_eq_false_iff_ne.2 (by omega)
              clear ho hst hx hm1 hm2 h9
              go_wp2
              go_ret3
              exact ⟨by rw [hz.out]; rfl, rfl⟩
          · have h0' : ¬ (0 : Int) < (i : Int) := by omega
            have h9' : ((i : Int) == 9) = false := beq_eq_false_iff_ne.2 (by omega)
            clear ho hst hx hm1 hm2
            go_wp2
            go_ret3
            exact ⟨by rw [hz.out]; rfl, rfl⟩
        · have hi9 : i < 9 := by omega
          have hz : Hid (tkF b (10 - (i + 1)) (i + 1) (acc + c % 128 * 128 ^ i) = V) := by show _ = V; rw [← hst.out, if_neg hx, if_neg hc8]
          have hacc2 : Hid (acc + c % 128 * 128 ^ i < 128 ^ (i + 1)) := by
            show _ < _
            have := hacc.out
            rw [Nat.pow_succ]
            have h3 : c % 128 * 128 ^ i ≤ 127 * 128 ^ i := Nat.mul_le_mul_right _ (by omega)
            omega
          have hc8' : ¬ (c : Int) < 128 := by omega
          have hp2 : IntKind.u64.wrap ((p : Int) * 128) = ((128 ^ (i + 1) : Nat) : Int) := by rw [hp.out]; exact pow_step i hi9
          obtain ⟨q1, q2⟩ := hq
          have h9' : ((i : Int) == 9) = false := beq_eq_false_iff_ne.2 (by omega)
          have hc0' : ((c : Int) == 0) = false := beq_eq_false_iff_ne.2 (by omega)
          generalize hm1 : c % 128 * 128 ^ i = m at q1 q2 hz hacc2
          generalize hm2 : acc + m = acc' at q2 hz hacc2
          obtain ⟨p', hp'⟩ : ∃ p', 128 ^ (i + 1) = p' := ⟨_, rfl⟩
          have hp3 := Lib.hid hp'.symm
          rw [hp'] at hp2
          clear ho hst hx hm1 hm2 hp'
          by_cases h0 : 0 < i
          · have h0' : (0 : Int) < (i : Int) := by omega
            go_wp2
            go_round
            case rel => exact ⟨i + 1, acc', p', by go_num, rfl, rfl, hp3, by omega, hacc2, hz⟩
            case measure => simp [intOf]; omega
          · have h0' : ¬ (0 : Int) < (i : Int) := by omega
            go_wp2
            go_round
            case rel => exact ⟨i + 1, acc', p', by go_num, rfl, rfl, hp3, by omega, hacc2, hz⟩
            case measure => simp [intOf]; omega
    · have h1' : ¬ (i : Int) < (b.size : Int) := by omega
      have hz : Hid (V = (0, 0, 2)) := by
        show V = _
        rw [← hv.out]
        cases hf : 10 - i with
        | zero => rfl
        | succ f => simp only [tkF]; rw [if_neg (by omega)]
      clear hv
      go_wp2
      go_ret3
      exact ⟨by rw [hz.out]; rfl, rfl⟩
end Go.Proofs.YtojkoedkecnccaaDoor.Varint
