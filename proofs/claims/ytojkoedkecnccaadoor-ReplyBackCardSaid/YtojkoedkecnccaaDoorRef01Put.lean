/-
  The document's answer of layer 1 (Put): the walks: what each returns, in the words of the program's own.
-/
import Derived.Test.YtojkoedkecnccaaDoorVarint
namespace Go.Proofs.YtojkoedkecnccaaDoor.Varint
open Go.RowKit Go.Proofs.YtojkoedkecnccaaDoor.Pad
set_option linter.unusedVariables false
set_option linter.unusedSimpArgs false

theorem byteS_nat (n : Nat) (h : n < 256) : byteS (n : Int) = ⟨#[n.toUInt8]⟩ := by
  unfold byteS
  rw [show ((n : Int) % 256).toNat = n by omega]

set_option maxRecDepth 100000 in
set_option maxHeartbeats 1000000 in
theorem putR (f : Nat) : ∀ (n : Nat) (w : World), n < 128 ^ (f + 1) → n ≤ 18446744073709551615 → f ≤ 9 →
    Calls Tryd.prog 78 #[.int .u64 n] w fun e w' => e = .returned (.string ⟨(vF (f + 1) n).toArray⟩) ∧ Below w.heap.size w w' := by
  induction f with
  | zero =>
    intro n w hn h64 _
    have h1 : n < 128 := by simpa using hn
    have h1' : (n : Int) < 128 := by omega
    have hz : Hid ((⟨(vF 1 n).toArray⟩ : ByteArray) = byteS (n : Int)) := by
      show _ = _
      rw [byteS_nat n (by omega)]
      simp only [vF]; rw [if_pos h1]
    generalize (⟨(vF 1 n).toArray⟩ : ByteArray) = R at hz
    have hb := fun x => byte_any (n : Int) x
    clear hn
    go_enter Tryd.func78, Tryd.ntmps78
    go_wp2_with (go_at_call 62; refine (hb _).mono ?_; rintro e w1 ⟨rfl, g1⟩)
    go_ret
    exact ⟨by rw [hz.out]; rfl, g1⟩
  | succ f ih =>
    intro n w hn h64 hf
    by_cases h1 : n < 128
    · have h1' : (n : Int) < 128 := by omega
      have hz : Hid ((⟨(vF (f + 1 + 1) n).toArray⟩ : ByteArray) = byteS (n : Int)) := by
        show _ = _
        rw [byteS_nat n (by omega)]
        simp only [vF]; rw [if_pos h1]
      generalize (⟨(vF (f + 1 + 1) n).toArray⟩ : ByteArray) = R at hz
      have hb := fun x => byte_any (n : Int) x
      clear hn ih
      go_enter Tryd.func78, Tryd.ntmps78
      go_wp2_with (go_at_call 62; refine (hb _).mono ?_; rintro e w1 ⟨rfl, g1⟩)
      go_ret
      exact ⟨by rw [hz.out]; rfl, g1⟩
    · have h1' : ¬ (n : Int) < 128 := by omega
      have hlen := vF_le (f + 1) (n / 128)
      have hz : Hid ((⟨(vF (f + 1 + 1) n).toArray⟩ : ByteArray) = byteS ((n : Int) % 128 + 128) ++ (⟨(vF (f + 1) (n / 128)).toArray⟩ : ByteArray)) := by
        show _ = _
        rw [show ((n : Int) % 128 + 128) = ((n % 128 + 128 : Nat) : Int) by omega, byteS_nat _ (by omega)]
        apply ba_ext
        rw [vF, if_neg h1, ByteArray.data_append]
        simp
      have hsz : (⟨(vF (f + 1) (n / 128)).toArray⟩ : ByteArray).size ≤ 11 := by
        show (vF (f + 1) (n / 128)).toArray.size ≤ 11
        simp; omega
      have hih := fun x => ih (n / 128) x (by rw [Nat.pow_succ] at hn; omega) (by omega) (by omega)
      rw [show ((n / 128 : Nat) : Int) = (n : Int) / 128 by omega] at hih
      generalize (⟨(vF (f + 1 + 1) n).toArray⟩ : ByteArray) = R at hz
      generalize (⟨(vF (f + 1) (n / 128)).toArray⟩ : ByteArray) = T at hz hih hsz
      have hb := fun x => byte_any ((n : Int) % 128 + 128) x
      have hs1 : (byteS ((n : Int) % 128 + 128)).size ≤ 1 := Nat.le_refl _
      generalize byteS ((n : Int) % 128 + 128) = B at hz hb hs1
      clear hn ih hlen
      go_enter Tryd.func78, Tryd.ntmps78
      go_wp2_with fail
      refine (hb _).mono ?_
      rintro e w1 ⟨rfl, g1⟩
      go_wp2_with fail
      refine (hih _).mono ?_
      rintro e w2 ⟨rfl, g2⟩
      have q2 : Below w.heap.size w w2 := g1.trans (g2.mono g1.size)
      clear g1 g2
      go_wp2_with fail
      go_ret
      exact ⟨by rw [hz.out]; rfl, q2⟩

theorem putR_any (n : Nat) (w : World) (h : n < 18446744073709551616) :
    Calls Tryd.prog 78 #[.int .u64 n] w fun e w' => e = .returned (.string (vB n)) ∧ Below w.heap.size w w' :=
  putR 9 n w (by omega) (by omega) (by omega)
end Go.Proofs.YtojkoedkecnccaaDoor.Varint
