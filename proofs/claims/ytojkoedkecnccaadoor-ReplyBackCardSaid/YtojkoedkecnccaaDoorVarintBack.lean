/-
  varint, plain: what is taken is what would be put: canonical.
-/
import Derived.Test.YtojkoedkecnccaaDoorVarintTake
namespace Go.Proofs.YtojkoedkecnccaaDoor.Varint
open Go.RowKit
set_option linter.unusedVariables false

/-- the number whose bytes begin at place i, without what came ahead -/
theorem tk_back (b : ByteArray) : ∀ f i acc n k, f + i = 10 → tkF b f i acc = (n, k, 0) →
    ∃ m, n = acc + m * 128 ^ i ∧ m < 128 ^ f ∧ i < k ∧ k ≤ b.size ∧ m < 2 * 128 ^ (f - 1) ∧ (0 < i → m ≠ 0) ∧ vF f m = (b.data.toList.drop i).take (k - i) := by
  intro f
  induction f with
  | zero => intro i acc n k _ h; simp [tkF] at h
  | succ f ih =>
    intro i acc n k hf h
    simp only [tkF] at h
    by_cases h1 : i < b.size
    · rw [if_pos h1] at h
      have hc := byt_lt b i
      have hg : b.data.toList.drop i = UInt8.ofNat (byt b i) :: b.data.toList.drop (i + 1) := by
        have hl : i < b.data.toList.length := by rw [Array.length_toList]; exact h1
        rw [List.drop_eq_getElem_cons hl]
        congr 1
        have hb := byt_at b i h1
        have e : b.data.toList[i] = b[i]'h1 := by simp [ByteArray.getElem_eq_getElem_data]
        rw [e, ← hb]
        simp
      by_cases h2 : (i = 9 ∧ 1 < byt b i) ∨ (byt b i = 0 ∧ 0 < i)
      · rw [if_pos h2] at h; simp at h
      · rw [if_neg h2] at h
        by_cases h3 : byt b i < 128
        · rw [if_pos h3] at h
          simp at h
          obtain ⟨rfl, rfl⟩ := h
          have hp : 0 < 128 ^ f := Nat.pow_pos (by omega)
          have hq : byt b i < 2 * 128 ^ (f + 1 - 1) := by
            rw [show f + 1 - 1 = f by omega]
            cases f with
            | zero => simp; omega
            | succ g => have hg' : 0 < 128 ^ g := Nat.pow_pos (by omega); rw [Nat.pow_succ]; omega
          refine ⟨byt b i, by rw [Nat.mod_eq_of_lt h3], by rw [Nat.pow_succ]; omega, by omega, by omega, hq, by omega, ?_⟩
          simp only [vF]
          rw [if_pos h3, hg, show i + 1 - i = 1 by omega]
          simp
        · rw [if_neg h3] at h
          obtain ⟨m, hn, hm, hk, hks, hm1, hm0, hv⟩ := ih (i + 1) _ n k (by omega) h
          have hm0' := hm0 (by omega)
          refine ⟨byt b i % 128 + 128 * m, by rw [hn, Nat.pow_succ, Nat.add_mul, Nat.mul_comm (128 ^ i) 128, ← Nat.mul_assoc, Nat.mul_comm m 128]; omega, by rw [Nat.pow_succ]; omega, by omega, hks, ?_, by omega, ?_⟩
          · cases f with
            | zero => simp [tkF] at h
            | succ g =>
              rw [show g + 1 + 1 - 1 = g + 1 by omega, Nat.pow_succ]
              rw [show g + 1 - 1 = g by omega] at hm1
              omega
          · simp only [vF]
            rw [if_neg (by omega), show (byt b i % 128 + 128 * m) % 128 = byt b i % 128 by omega, show (byt b i % 128 + 128 * m) / 128 = m by omega, hv, hg, show k - i = (k - (i + 1)) + 1 by omega, List.take_succ_cons, show byt b i % 128 + 128 = byt b i by omega]
    · rw [if_neg h1] at h; simp at h

theorem takeV_back (b : ByteArray) {n k : Nat} (h : takeV b = (n, k, 0)) : n < 18446744073709551616 ∧ k ≤ b.size ∧ vB n = b.extract 0 k := by
  obtain ⟨m, hn, _, hk, hks, hm, _, hv⟩ := tk_back b 10 0 0 n k rfl h
  obtain rfl : n = m := by simpa using hn
  refine ⟨by have : (2 * 128 ^ (10 - 1) : Nat) = 18446744073709551616 := by decide
             omega, hks, ?_⟩
  unfold vB vL
  rw [hv]
  apply Pad.ba_ext
  simp

/-- what is put is taken -/
theorem tk_of (b : ByteArray) : ∀ f i acc m (r : List UInt8), f + i = 10 → 1 ≤ f → m < 2 * 128 ^ (f - 1) → (0 < i → m ≠ 0) → b.data.toList.drop i = vF f m ++ r →
    tkF b f i acc = (acc + m * 128 ^ i, i + (vF f m).length, 0) := by
  intro f
  induction f with
  | zero => intro i acc m r _ h; omega
  | succ f ih =>
    intro i acc m r hf _ hm h0 hd
    have hlen := congrArg List.length hd
    have hne : 1 ≤ (vF (f + 1) m).length := by simp only [vF]; split <;> simp
    have h1 : i < b.size := by
      rw [List.length_drop, List.length_append, Array.length_toList] at hlen
      have : b.data.size = b.size := rfl
      omega
    have hl : i < b.data.toList.length := by rw [Array.length_toList]; exact h1
    have hg : b.data.toList.drop i = UInt8.ofNat (byt b i) :: b.data.toList.drop (i + 1) := by
      rw [List.drop_eq_getElem_cons hl]
      congr 1
      have hb := byt_at b i h1
      have e : b.data.toList[i] = b[i]'h1 := by simp [ByteArray.getElem_eq_getElem_data]
      rw [e, ← hb]
      simp
    have hc := byt_lt b i
    rw [hg] at hd
    simp only [tkF]
    rw [if_pos h1]
    by_cases h3 : m < 128
    · simp only [vF] at hd ⊢
      rw [if_pos h3] at hd ⊢
      have hh := (List.cons.inj hd).1
      have hb : byt b i = m := by
        have := congrArg UInt8.toNat hh
        simp [Nat.toUInt8] at this
        omega
      have h9 : ¬ ((i = 9 ∧ 1 < byt b i) ∨ (byt b i = 0 ∧ 0 < i)) := by
        rintro (⟨hi, h⟩ | ⟨h, hi⟩)
        · have : f = 0 := by omega
          subst this
          simp at hm
          omega
        · have := h0 hi; omega
      rw [if_neg h9, if_pos (by omega), hb, Nat.mod_eq_of_lt h3]
      simp
    · have hf0 : 1 ≤ f := by
        rcases Nat.eq_zero_or_pos f with rfl | h
        · simp at hm; omega
        · exact h
      simp only [vF] at hd ⊢
      rw [if_neg h3] at hd ⊢
      have hh := (List.cons.inj hd).1
      have ht := (List.cons.inj hd).2
      have hb : byt b i = m % 128 + 128 := by
        have := congrArg UInt8.toNat hh
        simp [Nat.toUInt8] at this
        omega
      have h9 : ¬ ((i = 9 ∧ 1 < byt b i) ∨ (byt b i = 0 ∧ 0 < i)) := by omega
      have hm2 : m / 128 < 2 * 128 ^ (f - 1) := by
        obtain ⟨g, rfl⟩ : ∃ g, f = g + 1 := ⟨f - 1, by omega⟩
        rw [show g + 1 + 1 - 1 = g + 1 by omega, Nat.pow_succ] at hm
        rw [show g + 1 - 1 = g by omega]
        omega
      rw [if_neg h9, if_neg (by omega), ih (i + 1) _ (m / 128) r (by omega) hf0 hm2 (fun _ => by omega) ht]
      have e1 : byt b i % 128 = m % 128 := by omega
      rw [e1]
      have e2 : m % 128 * 128 ^ i + m / 128 * 128 ^ (i + 1) = m * 128 ^ i := by
        rw [Nat.pow_succ, Nat.mul_comm (128 ^ i) 128, ← Nat.mul_assoc, ← Nat.add_mul]
        congr 1; omega
      simp only [List.length_cons, Prod.mk.injEq, and_true]
      constructor <;> omega

theorem takeV_of (n : Nat) (d : ByteArray) (hn : n < 18446744073709551616) : takeV (vB n ++ d) = (n, (vB n).size, 0) := by
  have e : (2 * 128 ^ (10 - 1) : Nat) = 18446744073709551616 := by decide
  have h := tk_of (vB n ++ d) 10 0 0 n d.data.toList rfl (by omega) (by omega) (by omega) (by simp [vB, vL])
  unfold takeV
  rw [h, vB_size]
  simp [vL]
end Go.Proofs.YtojkoedkecnccaaDoor.Varint
