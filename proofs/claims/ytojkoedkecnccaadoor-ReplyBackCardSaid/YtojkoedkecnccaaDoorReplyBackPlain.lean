/-
  reply, plain: what is put is taken, and what is taken is put so.
-/
import Derived.Test.YtojkoedkecnccaaDoorRef35All
namespace Go.Proofs.YtojkoedkecnccaaDoor.Reply
open Go.RowKit Go.Proofs.YtojkoedkecnccaaDoor.Pad Go.Proofs.YtojkoedkecnccaaDoor.Span
set_option linter.unusedVariables false
set_option linter.unusedSimpArgs false

theorem takes_empty : takes ⟨#[]⟩ = none := by
  apply takes_none
  left
  unfold Frame.takeV Frame.headV
  decide +kernel

theorem takes_back {b d : ByteArray} {i t : Nat} (h : takes b = some (i, t, d)) : rp i t d = (b, 0) ∧ i < 18446744073709551616 ∧ t ≤ 1048576 ∧ d.size ≤ 1022 := by
  by_cases hc : (Frame.takeV b).2.2.2.2 ≠ 0 ∨ (Frame.takeV b).2.2.2.1 ≠ b.size ∨ (Frame.takeV b).1 ≠ 9 ∨ (Frame.takeV b).2.1 ≠ 0 ∨ ¬ Padded (Frame.takeV b).2.2.1
  · rw [takes_none hc] at h; simp at h
  rw [takes_rd hc] at h
  have hfr := @frame_ok b
  generalize Frame.takeV b = V at hc h hfr
  obtain ⟨k, f, body, n, e⟩ := V
  simp only at hc h hfr
  have he : e = 0 := Classical.byContradiction fun q => hc (Or.inl q)
  subst he
  have hn : n = b.size := Classical.byContradiction fun q => hc (Or.inr (Or.inl q))
  have hk : k = 9 := Classical.byContradiction fun q => hc (Or.inr (Or.inr (Or.inl q)))
  have hf : f = 0 := Classical.byContradiction fun q => hc (Or.inr (Or.inr (Or.inr (Or.inl q))))
  have hp : Padded body := Classical.byContradiction fun q => hc (Or.inr (Or.inr (Or.inr (Or.inr q))))
  obtain ⟨h4, ek, ef, en, eb, hl⟩ := hfr rfl
  have hiff := head_iff h4 hl
  rw [← ek, ← ef, ← eb, ← en] at hiff
  have hb := hiff.2 ⟨hn, hk, hf⟩
  obtain ⟨ht, hlt, hst⟩ := rd_txt h
  obtain ⟨k1, k2, hI, hn1, hk1, hT, hk2, hd⟩ := rd_some h
  have hs := inner_small hp
  refine ⟨?_, hlt, hst, by rw [hd, extract_size]; omega⟩
  unfold rp
  rw [if_neg (by unfold okB; simp; omega), show (t : Int).toNat = t by omega, ht, if_neg (by omega), padF_inner body hp, hb]

theorem head_off (k f : Int) (n : Nat) (b : ByteArray) : (Frame.headS k f n ++ b).extract 4 (4 + b.size) = b := by
  apply ba_ext
  have h4 : (Frame.headS k f n).data.toList.length = 4 := rfl
  simp only [ByteArray.data_extract, ByteArray.data_append, ByteArray.size_append, Array.toList_extract, Array.toList_append, List.extract]
  rw [show (4 : Nat) = (Frame.headS k f n).data.toList.length from h4.symm, List.drop_left]
  apply List.take_of_length_le
  rw [list_size]; omega

theorem rd_of (i t : Nat) (d : ByteArray) (hi : i < 18446744073709551616) (ht : t ≤ 1048576) : rd (txt i t d) = some (i, t, d) := by
  have e1 : txt i t d = Varint.vB t ++ (Varint.vB i ++ d) := by unfold txt; apply ba_ext; simp
  have h1 := Varint.takeV_of t (Varint.vB i ++ d) (by omega)
  have h2 := Varint.takeV_of i d hi
  have x1 : (Varint.vB t ++ (Varint.vB i ++ d)).extract (Varint.vB t).size (Varint.vB t ++ (Varint.vB i ++ d)).size = Varint.vB i ++ d := by
    apply ba_ext
    simp only [ByteArray.data_extract, ByteArray.data_append, ByteArray.size_append, Array.toList_extract, Array.toList_append, List.extract]
    rw [show (Varint.vB t).size = (Varint.vB t).data.toList.length from (list_size _).symm, List.drop_left]
    apply List.take_of_length_le
    simp only [List.length_append, list_size]; omega
  have x2 : (Varint.vB t ++ (Varint.vB i ++ d)).extract ((Varint.vB t).size + (Varint.vB i).size) (Varint.vB t ++ (Varint.vB i ++ d)).size = d := by
    apply ba_ext
    have hl : (Varint.vB t).size + (Varint.vB i).size = ((Varint.vB t).data.toList ++ (Varint.vB i).data.toList).length := by simp only [List.length_append, list_size]
    simp only [ByteArray.data_extract, ByteArray.data_append, ByteArray.size_append, Array.toList_extract, Array.toList_append, List.extract]
    rw [hl, ← List.append_assoc, List.drop_left]
    apply List.take_of_length_le
    simp only [List.length_append, list_size]; omega
  have hI : intV (Varint.vB t ++ (Varint.vB i ++ d)) 1048576 = (t, (Varint.vB t).size, 0) := by
    unfold intV
    rw [h1]
    simp only [Prod.mk.injEq, true_and]
    rw [if_neg (by omega)]
  rw [e1]
  unfold rd
  rw [hI]
  simp only
  rw [if_neg (by simp), x1, h2]
  simp only
  rw [if_neg (by simp), x2]

theorem takes_put {i t : Nat} {d : ByteArray} (hi : i < 18446744073709551616) (ht : t ≤ 1048576) (hs : (txt i t d).size ≤ 1022) :
    takes (Frame.headS 9 0 (padF (txt i t d)).size ++ padF (txt i t d)) = some (i, t, d) := by
  have hps := padF_size (txt i t d) (by omega)
  have hcr := cls_room (txt i t d).size (by omega)
  have hpp := padF_padded (txt i t d) (by omega)
  have hin := inner_padF (txt i t d) (by omega)
  have hrd := rd_of i t d hi ht
  have hz : (padF (txt i t d)).size ≤ 1024 := by omega
  generalize txt i t d = T at *
  generalize hP : padF T = P at *
  have hlen : (Frame.headS 9 0 P.size ++ P).size = 4 + P.size := by rw [ByteArray.size_append]; rfl
  have b0 : Frame.by' (Frame.headS 9 0 P.size ++ P) 0 = 9 := by unfold Frame.by'; rw [get_list]; unfold Frame.headS; simp
  have b1 : Frame.by' (Frame.headS 9 0 P.size ++ P) 1 = 0 := by unfold Frame.by'; rw [get_list]; unfold Frame.headS; simp
  have b2 : Frame.by' (Frame.headS 9 0 P.size ++ P) 2 = P.size / 256 := by unfold Frame.by'; rw [get_list]; unfold Frame.headS; simp; omega
  have b3 : Frame.by' (Frame.headS 9 0 P.size ++ P) 3 = P.size % 256 := by unfold Frame.by'; rw [get_list]; unfold Frame.headS; simp
  have bl : Frame.len2 (Frame.headS 9 0 P.size ++ P) = P.size := by unfold Frame.len2; rw [b2, b3]; omega
  have hh : Frame.headV (Frame.headS 9 0 P.size ++ P) = (9, 0, P.size, 0) := by
    unfold Frame.headV
    rw [hlen, b0, b1, bl]
    rw [if_neg (by omega), if_neg (by decide), if_neg (by omega)]
  have hT : Frame.takeV (Frame.headS 9 0 P.size ++ P) = (9, 0, P, 4 + P.size, 0) := by
    unfold Frame.takeV
    rw [hh, hlen, head_off]
    simp only
    rw [if_neg (by simp), if_neg (by omega)]
  rw [takes_rd (by rw [hT, hlen]; simp; exact hpp), hT]
  simp only
  rw [hin, hrd]

/-- what is put: its bytes, and what they are taken for -/
theorem put_takes (id : Nat) (st : Int) (d : ByteArray) (hid : id < 18446744073709551616) :
    (okB st = false ∧ rp id st d = (⟨#[]⟩, 1)) ∨ (okB st = true ∧ 1022 < (txt id st.toNat d).size ∧ rp id st d = (⟨#[]⟩, 3)) ∨
    (okB st = true ∧ ∃ s, rp id st d = (s, 0) ∧ takes s = some (id, st.toNat, d)) := by
  by_cases ho : okB st = false
  · left; exact ⟨ho, by unfold rp; rw [if_pos ho]⟩
  · have ho' : okB st = true := by simpa using ho
    have hst : 0 ≤ st ∧ st ≤ 1048576 := by unfold okB at ho'; simpa using ho'
    by_cases hl : 1022 < (txt id st.toNat d).size
    · right; left; exact ⟨ho', hl, by unfold rp; rw [if_neg ho, if_pos hl]⟩
    · right; right
      refine ⟨ho', _, by unfold rp; rw [if_neg ho, if_neg hl], takes_put hid (by omega) (by omega)⟩

theorem vL_small (t : Nat) (h : t < 128) : (Varint.vB t).size = 1 := by
  rw [Varint.vB_size]
  unfold Varint.vL
  simp [Varint.vF, h]

/-- a text that is too long, with a small status, has data that are too long -/
theorem long_of {id : Nat} {st : Int} {d : ByteArray} (h0 : 0 ≤ st) (h1 : st < 128) (h : 1022 < (txt id st.toNat d).size) : longB d.size = true := by
  unfold txt at h
  rw [ByteArray.size_append, ByteArray.size_append, vL_small _ (by omega), Varint.vB_size] at h
  have := Varint.vL_le id
  unfold longB
  simp; omega

/-- what a failure is taken for -/
theorem fail_takes (id : Nat) (st : Int) (hid : id < 18446744073709551616) : takes (rp id (fst' st) ⟨#[]⟩).1 = some (id, (fst' st).toNat, ⟨#[]⟩) := by
  have hf : 0 ≤ fst' st ∧ fst' st ≤ 1048576 ∧ okB (fst' st) = true := by
    unfold fst'
    by_cases ho : okB st = true
    · rw [if_pos ho]
      have : 0 ≤ st ∧ st ≤ 1048576 := by unfold okB at ho; simpa using ho
      exact ⟨this.1, this.2, ho⟩
    · rw [if_neg ho]; exact ⟨by decide, by decide, by decide⟩
  generalize fst' st = f at hf
  have hs := txt_size id f.toNat ⟨#[]⟩
  have hz : (⟨#[]⟩ : ByteArray).size = 0 := rfl
  rcases put_takes id f ⟨#[]⟩ hid with ⟨h, _⟩ | ⟨_, h, _⟩ | ⟨_, s, h, ht⟩
  · rw [h] at hf; simp at hf
  · omega
  · rw [h]; exact ht
end Go.Proofs.YtojkoedkecnccaaDoor.Reply
