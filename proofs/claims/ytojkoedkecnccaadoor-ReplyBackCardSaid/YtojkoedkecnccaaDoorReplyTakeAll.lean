/-
  reply.Take: which reply any bytes are those of: the cases brought together, and what is taken is what would be put.
-/
import Derived.Test.YtojkoedkecnccaaDoorReplyTake
import Derived.Test.YtojkoedkecnccaaDoorVarintBack
namespace Go.Proofs.YtojkoedkecnccaaDoor.Reply
open Go.RowKit Go.Proofs.YtojkoedkecnccaaDoor.Pad Go.Proofs.YtojkoedkecnccaaDoor.Span
set_option linter.unusedVariables false
set_option linter.unusedSimpArgs false

theorem ext_all (s : ByteArray) : s.extract 0 s.size = s := by
  apply ba_ext
  rw [ByteArray.data_extract]
  simp
  exact List.take_of_length_le (by simp)

theorem ext_app (s : ByteArray) (i : Nat) (h : i ≤ s.size) : s.extract 0 i ++ s.extract i s.size = s := by
  apply ba_ext
  simp

theorem ext_ext (s : ByteArray) (i j : Nat) (h : i + j ≤ s.size) : (s.extract i s.size).extract 0 j = s.extract i (i + j) := by
  rw [ByteArray.extract_extract]
  congr 1
  omega

theorem intV_ok {s : ByteArray} {n k : Nat} (h : intV s 1048576 = (n, k, 0)) : Varint.takeV s = (n, k, 0) ∧ n ≤ 1048576 := by
  unfold intV at h
  generalize Varint.takeV s = T at h
  obtain ⟨a, b, c⟩ := T
  simp only [Prod.mk.injEq] at h
  obtain ⟨rfl, rfl, h⟩ := h
  by_cases hc : c = 0 ∧ 1048576 < a
  · rw [if_pos hc] at h; simp at h
  · rw [if_neg hc] at h
    subst h
    exact ⟨rfl, by omega⟩

/-- the reply of bytes, or none -/
noncomputable def takes (b : ByteArray) : Option (Nat × Nat × ByteArray) := by
  classical
  exact if (Frame.takeV b).2.2.2.2 ≠ 0 ∨ (Frame.takeV b).2.2.2.1 ≠ b.size ∨ (Frame.takeV b).1 ≠ 9 ∨ (Frame.takeV b).2.1 ≠ 0 ∨ ¬ Padded (Frame.takeV b).2.2.1 then none else rd (inner (Frame.takeV b).2.2.1)

theorem takes_none {b : ByteArray} (h : (Frame.takeV b).2.2.2.2 ≠ 0 ∨ (Frame.takeV b).2.2.2.1 ≠ b.size ∨ (Frame.takeV b).1 ≠ 9 ∨ (Frame.takeV b).2.1 ≠ 0 ∨ ¬ Padded (Frame.takeV b).2.2.1) : takes b = none := by
  unfold takes; exact if_pos h
theorem takes_rd {b : ByteArray} (h : ¬ ((Frame.takeV b).2.2.2.2 ≠ 0 ∨ (Frame.takeV b).2.2.2.1 ≠ b.size ∨ (Frame.takeV b).1 ≠ 9 ∨ (Frame.takeV b).2.1 ≠ 0 ∨ ¬ Padded (Frame.takeV b).2.2.1)) : takes b = rd (inner (Frame.takeV b).2.2.1) := by
  unfold takes; exact if_neg h

/-- what is answered, one way or the other -/
def flat (o : Option (Nat × Nat × ByteArray)) : Nat × Nat × ByteArray × Nat := match o with | none => (0, 0, ⟨#[]⟩, 1) | some V => (V.1, V.2.1, V.2.2, 0)
def RetT (X : Nat × Nat × ByteArray × Nat) (w : World) (r : Ending) (w' : World) : Prop :=
  r = .returned (.tuple #[.agg #[.int .u64 X.1, .int .i64 X.2.1, .string X.2.2.1], .int .i64 X.2.2.2]) ∧ Below w.heap.size w w'
theorem RetT.no {w : World} {r : Ending} {w' : World} (h : NoReply w r w') : RetT (flat none) w r w' := h
theorem RetT.is {w : World} {V : Nat × Nat × ByteArray} {r : Ending} {w' : World} (h : IsReply w V r w') : RetT (flat (some V)) w r w' := h

theorem inner_small {s : ByteArray} (h : Padded s) : (inner s).size ≤ 1022 := by
  rw [inner_size s h]; exact h.2.1

/-- what the unpadded text's reading says -/
theorem rd_some {s d : ByteArray} {n1 n2 : Nat} (h : rd s = some (n2, n1, d)) :
    ∃ k1 k2, intV s 1048576 = (n1, k1, 0) ∧ n1 ≤ 1048576 ∧ k1 ≤ s.size ∧ Varint.takeV (s.extract k1 s.size) = (n2, k2, 0) ∧ k1 + k2 ≤ s.size ∧ d = s.extract (k1 + k2) s.size := by
  unfold rd at h
  have hI := @intV_ok s
  generalize intV s 1048576 = I at h hI
  obtain ⟨a, k1, c⟩ := I
  simp only at h
  by_cases hc : c ≠ 0
  · rw [if_pos hc] at h; simp at h
  · rw [if_neg hc] at h
    obtain rfl : c = 0 := by simpa using hc
    obtain ⟨ht, hn⟩ := hI rfl
    have hk := takeV_fits s ht
    have hT := @takeV_fits (s.extract k1 s.size)
    rw [extract_size] at hT
    generalize hG : Varint.takeV (s.extract k1 s.size) = T at h hT
    obtain ⟨p, k2, q⟩ := T
    simp only at h
    by_cases hq : q ≠ 0
    · rw [if_pos hq] at h; simp at h
    · rw [if_neg hq] at h
      obtain rfl : q = 0 := by simpa using hq
      have hk2 := hT rfl
      simp only [Option.some.injEq, Prod.mk.injEq] at h
      obtain ⟨rfl, rfl, rfl⟩ := h
      exact ⟨k1, k2, rfl, hn, hk, hG, by omega, rfl⟩

/-- the text of what was read is the text -/
theorem rd_txt {s d : ByteArray} {n1 n2 : Nat} (h : rd s = some (n2, n1, d)) : txt n2 n1 d = s ∧ n2 < 18446744073709551616 ∧ n1 ≤ 1048576 := by
  obtain ⟨k1, k2, hi, hn, hk, ht, hk2, rfl⟩ := rd_some h
  obtain ⟨hi, _⟩ := intV_ok hi
  obtain ⟨_, _, v1⟩ := Varint.takeV_back s hi
  obtain ⟨l2, _, v2⟩ := Varint.takeV_back _ ht
  refine ⟨?_, l2, hn⟩
  unfold txt
  rw [v1, v2, ext_ext s k1 k2 hk2]
  have e1 : s.extract 0 k1 ++ s.extract k1 (k1 + k2) = s.extract 0 (k1 + k2) := by
    rw [ByteArray.extract_append_extract]
    congr 1 <;> omega
  rw [e1]
  exact ext_app s _ hk2

theorem takeReply_any (b : ByteArray) (w : World) (hb : b.size ≤ 140737488351232) :
    Calls Tryd.prog 27 #[.string b] w (RetT (flat (takes b)) w) := by
  have hf0 := fun x => Frame.take_any b x hb
  have hbody : (Frame.takeV b).2.2.1.size ≤ b.size := by
    unfold Frame.takeV
    repeat' split
    all_goals simp only
    all_goals first | exact Nat.zero_le _ | (rw [ByteArray.size_extract]; omega)
  have hno := @takes_none b
  have hrd := @takes_rd b
  generalize Frame.takeV b = V at hf0 hbody hno hrd
  obtain ⟨k, f, body, n, e⟩ := V
  replace hf0 : ∀ x, Calls Tryd.prog 42 #[.string b] x fun r w' => r = .returned (.tuple #[.agg #[.int .i64 k, .int .i64 f, .string body], .int .i64 n, .int .i64 e]) ∧ Below x.heap.size x w' := hf0
  simp only at hbody hno hrd
  by_cases he : e ≠ 0
  · rw [hno (Or.inl he)]; exact (rt_e b body w k f n e hf0 he).mono fun _ _ h => RetT.no h
  obtain rfl : e = 0 := by simpa using he
  by_cases hn : n ≠ b.size
  · rw [hno (Or.inr (Or.inl hn))]; exact (rt_n b body w k f n hf0 hn).mono fun _ _ h => RetT.no h
  obtain rfl : n = b.size := by simpa using hn
  by_cases hk : k ≠ 9
  · rw [hno (Or.inr (Or.inr (Or.inl hk)))]; exact (rt_k b body w k f hf0 hk).mono fun _ _ h => RetT.no h
  obtain rfl : k = 9 := by simpa using hk
  by_cases hf : f ≠ 0
  · rw [hno (Or.inr (Or.inr (Or.inr (Or.inl hf))))]; exact (rt_f b body w f hf0 hf).mono fun _ _ h => RetT.no h
  obtain rfl : f = 0 := by simpa using hf
  by_cases hp : ¬ Padded body
  · rw [hno (Or.inr (Or.inr (Or.inr (Or.inr hp))))]; exact (rt_u b body w hf0 (fun x => (unpad_any body x (by omega)).2 hp)).mono fun _ _ h => RetT.no h
  have hp' : Padded body := by simpa using hp
  rw [hrd (by simp; exact hp')]
  have hu := fun x => (unpad_any body x (by omega)).1 hp'
  have hs := inner_small hp'
  have hsm := @rd_some (inner body)
  have hx := ext_all (inner body)
  generalize inner body = s at hu hs hsm hx
  have hI : intV (s.extract 0 s.size) 1048576 = intV s 1048576 := by rw [hx]
  unfold rd at hsm ⊢
  have hok := @intV_ok s
  generalize intV s 1048576 = I at hI hsm hok
  obtain ⟨n1, k1, e1⟩ := I
  simp only at hsm hok ⊢
  by_cases h1 : e1 ≠ 0
  · rw [if_pos h1]
    exact (rt_int b body w s n1 k1 e1 hf0 hu (by omega) hI h1).mono fun _ _ h => RetT.no h
  obtain rfl : e1 = 0 := by simpa using h1
  rw [if_neg (by simp)] at hsm ⊢
  obtain ⟨hT1, hn1⟩ := hok rfl
  have hk1 := takeV_fits s hT1
  have hT2 := @takeV_fits (s.extract k1 s.size)
  rw [extract_size] at hT2
  have hV : Hid (Varint.takeV (s.extract k1 s.size) = Varint.takeV (s.extract k1 s.size)) := rfl
  generalize hG : Varint.takeV (s.extract k1 s.size) = T at hsm hT2 ⊢
  obtain ⟨n2, k2, e2⟩ := T
  simp only at hsm ⊢
  by_cases h2 : e2 ≠ 0
  · rw [if_pos h2]
    exact (rt_num b body w s n1 k1 n2 k2 e2 hf0 hu (by omega) hI hk1 hn1 hG h2).mono fun _ _ h => RetT.no h
  obtain rfl : e2 = 0 := by simpa using h2
  rw [if_neg (by simp)]
  have := hT2 rfl
  exact (rt_ok b body w s n1 k1 n2 k2 hf0 hu (by omega) hI hk1 hn1 hG (by omega)).mono fun _ _ h => RetT.is h
end Go.Proofs.YtojkoedkecnccaaDoor.Reply
