/-
  ref35.Take: the document's answer: it is the program's own.
-/
import Derived.Test.YtojkoedkecnccaaDoorReplyTakeAll
import Derived.Test.YtojkoedkecnccaaDoorRef35TakeB
namespace Go.Proofs.YtojkoedkecnccaaDoor.Reply
open Go.RowKit Go.Proofs.YtojkoedkecnccaaDoor.Pad Go.Proofs.YtojkoedkecnccaaDoor.Span
set_option linter.unusedVariables false
set_option linter.unusedSimpArgs false

theorem frame_ok {b body : ByteArray} {k f n : Nat} (h : Frame.takeV b = (k, f, body, n, 0)) :
    4 ≤ b.size ∧ k = Frame.by' b 0 ∧ f = Frame.by' b 1 ∧ n = 4 + Frame.len2 b ∧ body = b.extract 4 (4 + Frame.len2 b) ∧ Frame.len2 b + 4 ≤ b.size := by
  unfold Frame.takeV at h
  by_cases h1 : (Frame.headV b).2.2.2 ≠ 0
  · rw [if_pos h1] at h; simp at h; exact absurd h.2.2.2.2 h1
  rw [if_neg h1] at h
  by_cases h2 : b.size < (Frame.headV b).2.2.1 + 4
  · rw [if_pos h2] at h; simp at h
  rw [if_neg h2] at h
  have h1' : (Frame.headV b).2.2.2 = 0 := by simpa using h1
  have h4 := (Frame.headV_facts b).2.2 h1'
  have hh : Frame.headV b = (Frame.by' b 0, Frame.by' b 1, Frame.len2 b, 0) := by
    unfold Frame.headV at h1' ⊢
    repeat' split at h1'
    all_goals first | (simp at h1'; done) | skip
    all_goals simp_all
    all_goals rw [if_neg (show ¬ b.size < 4 by omega), if_neg (show ¬ 1024 < Frame.len2 b by omega)]
  rw [hh] at h h2
  simp only at h2
  simp only [Prod.mk.injEq] at h
  obtain ⟨rfl, rfl, rfl, rfl, _⟩ := h
  exact ⟨h4, rfl, rfl, rfl, rfl, by omega⟩

theorem head_iff {b : ByteArray} (h4 : 4 ≤ b.size) (hl : Frame.len2 b + 4 ≤ b.size) :
    Frame.headS 9 0 (b.extract 4 (4 + Frame.len2 b)).size ++ b.extract 4 (4 + Frame.len2 b) = b ↔ 4 + Frame.len2 b = b.size ∧ Frame.by' b 0 = 9 ∧ Frame.by' b 1 = 0 := by
  have hs : (b.extract 4 (4 + Frame.len2 b)).size = Frame.len2 b := by simp; omega
  rw [hs]
  obtain ⟨l, rfl⟩ : ∃ l : List UInt8, b = ⟨l.toArray⟩ := ⟨b.data.toList, by apply ba_ext; simp⟩
  have hz : (ByteArray.mk l.toArray).size = l.length := by show l.toArray.size = _; simp
  rw [hz] at h4 hl ⊢
  obtain ⟨x0, x1, x2, x3, r, rfl⟩ : ∃ x0 x1 x2 x3 r, l = x0 :: x1 :: x2 :: x3 :: r := by
    rcases l with _ | ⟨x0, _ | ⟨x1, _ | ⟨x2, _ | ⟨x3, r⟩⟩⟩⟩
    all_goals first | exact ⟨_, _, _, _, _, rfl⟩ | (exfalso; simp at h4)
  · have e0 : Frame.by' ⟨(x0 :: x1 :: x2 :: x3 :: r).toArray⟩ 0 = x0.toNat := by unfold Frame.by'; rw [get_list]; simp
    have e1 : Frame.by' ⟨(x0 :: x1 :: x2 :: x3 :: r).toArray⟩ 1 = x1.toNat := by unfold Frame.by'; rw [get_list]; simp
    have e2 : Frame.by' ⟨(x0 :: x1 :: x2 :: x3 :: r).toArray⟩ 2 = x2.toNat := by unfold Frame.by'; rw [get_list]; simp
    have e3 : Frame.by' ⟨(x0 :: x1 :: x2 :: x3 :: r).toArray⟩ 3 = x3.toNat := by unfold Frame.by'; rw [get_list]; simp
    have en : Frame.len2 ⟨(x0 :: x1 :: x2 :: x3 :: r).toArray⟩ = x2.toNat * 256 + x3.toNat := by unfold Frame.len2; rw [e2, e3]
    rw [en] at hl ⊢
    rw [e0, e1]
    have l2 := UInt8.toNat_lt x2
    have l3 := UInt8.toNat_lt x3
    have d2 : UInt8.ofNat ((x2.toNat * 256 + x3.toNat) / 256) = x2 := by rw [show (x2.toNat * 256 + x3.toNat) / 256 = x2.toNat by omega]; simp
    have d3 : UInt8.ofNat ((x2.toNat * 256 + x3.toNat) % 256) = x3 := by rw [show (x2.toNat * 256 + x3.toNat) % 256 = x3.toNat by omega]; simp
    obtain ⟨n, hn⟩ : ∃ n, n = x2.toNat * 256 + x3.toNat := ⟨_, rfl⟩
    rw [← hn] at hl d2 d3 ⊢
    have hE : (Frame.headS 9 0 n ++ (ByteArray.mk (x0 :: x1 :: x2 :: x3 :: r).toArray).extract 4 (4 + n)).data.toList = 9 :: 0 :: x2 :: x3 :: r.take n := by
      unfold Frame.headS
      simp [d2, d3]
    constructor
    · intro h
      have h' := congrArg (fun s : ByteArray => s.data.toList) h
      simp only at h'
      rw [hE] at h'
      simp at h'
      obtain ⟨rfl, rfl, h3⟩ := h'
      refine ⟨?_, rfl, rfl⟩
      have h5 : r.length ≤ n := by
        first
        | exact h3
        | (have h6 := congrArg List.length h3; rw [List.length_take] at h6; omega)
      simp at hl ⊢
      omega
    · rintro ⟨g1, g2, g3⟩
      apply ba_ext
      rw [hE]
      have f0 : x0 = 9 := UInt8.toNat_inj.1 g2
      have f1 : x1 = 0 := UInt8.toNat_inj.1 g3
      subst f0 f1
      simp at g1
      rw [List.take_of_length_le (by omega)]

theorem intV_bad {s : ByteArray} {n k e : Nat} (h : intV s 1048576 = (n, k, e)) (he : e ≠ 0) : (Ref02.intR s 1048576).2.2 ≠ 0 := by
  unfold intV at h
  unfold Ref02.intR
  generalize Varint.takeV s = T at h ⊢
  obtain ⟨a, b, c⟩ := T
  simp only [Prod.mk.injEq] at h ⊢
  obtain ⟨rfl, rfl, h⟩ := h
  by_cases hc : c ≠ 0
  · rw [if_pos hc]; exact hc
  · rw [if_neg hc]
    have hc0 : c = 0 := by simpa using hc
    by_cases hm : 1048576 < a
    · rw [if_pos hm]; simp
    · rw [if_neg (fun q => hm q.2)] at h
      omega
theorem intV_good {s : ByteArray} {n k : Nat} (h : intV s 1048576 = (n, k, 0)) : Ref02.intR s 1048576 = (n, k, 0) := by
  obtain ⟨ht, hn⟩ := intV_ok h
  unfold Ref02.intR
  rw [ht]
  rw [if_neg (by simp), if_neg (by simp; omega)]

theorem takeRef_any (b : ByteArray) (w : World) (hb : b.size ≤ 140737488351232) :
    Calls Tryd.prog 28 #[.string b] w (RetT (flat (takes b)) w) := by
  have hf0 := fun x => Frame.take05_any b x hb
  have hno := @takes_none b
  have hrd := @takes_rd b
  have hfr := @frame_ok b
  generalize Frame.takeV b = V at hf0 hno hrd hfr
  obtain ⟨k, f, body, n, e⟩ := V
  replace hf0 : ∀ x, Calls Tryd.prog 48 #[.string b] x (Frame.RetN k f body e x) := hf0
  simp only at hno hrd hfr
  by_cases he : e ≠ 0
  · rw [hno (Or.inl he)]; exact (t35_e b body w k f e n hf0 he).mono fun _ _ h => RetT.no h
  obtain rfl : e = 0 := by simpa using he
  obtain ⟨h4, ek, ef, en, eb, hl⟩ := hfr rfl
  have hbody : body.size ≤ b.size := by rw [eb]; simp; omega
  have hiff := head_iff h4 hl
  rw [← ek, ← ef, ← eb, ← en] at hiff
  clear he hfr ek ef en eb hl
  by_cases hp : ¬ Padded body
  · rw [hno (Or.inr (Or.inr (Or.inr (Or.inr hp))))]
    exact (t35_u b body w k f hf0 (fun x => (unpadR_any body x (by omega)).2 hp)).mono fun _ _ h => RetT.no h
  have hp' : Padded body := by simpa using hp
  have hu := fun x => (unpadR_any body x (by omega)).1 hp'
  have hs := inner_small hp'
  have hpad := padF_inner body hp'
  have hsome := @rd_some (inner body)
  have htxt := @rd_txt (inner body)
  have hnone : rd (inner body) = none → takes b = none := by
    intro hr
    by_cases hc : n ≠ b.size ∨ k ≠ 9 ∨ f ≠ 0
    · rcases hc with h | h | h
      · exact hno (Or.inr (Or.inl h))
      · exact hno (Or.inr (Or.inr (Or.inl h)))
      · exact hno (Or.inr (Or.inr (Or.inr (Or.inl h))))
    · rw [hrd, hr]
      rintro (h | h | h | h | h)
      · exact h rfl
      · exact hc (Or.inl h)
      · exact hc (Or.inr (Or.inl h))
      · exact hc (Or.inr (Or.inr h))
      · exact h hp'
  cases hr : rd (inner body) with
  | none =>
    rw [hnone hr]
    have hok := @intV_ok (inner body)
    have hbad := @intV_bad (inner body)
    have hgood := @intV_good (inner body)
    have hi := fun x => Ref02.int_any (inner body) 1048576 x (by omega) (by decide)
    unfold rd at hr
    clear hsome htxt hpad hnone hrd hno
    generalize inner body = s at *
    by_cases h1 : (intV s 1048576).2.2 ≠ 0
    · have hb2 := hbad rfl h1
      generalize Ref02.intR s 1048576 = R at hi hb2
      obtain ⟨p, q, r⟩ := R
      exact (t35_int b body w k f hf0 s hu p q r hi hb2).mono fun _ _ h => RetT.no h
    · rw [if_neg h1] at hr
      rcases hI : intV s 1048576 with ⟨n1, k1, e1⟩
      rw [hI] at h1 hr
      obtain rfl : e1 = 0 := by simpa using h1
      obtain ⟨ht1, hn1⟩ := hok hI
      rw [hgood hI] at hi
      have hk1 := takeV_fits s ht1
      simp only at hr
      by_cases h2 : (Varint.takeV (s.extract k1 s.size)).2.2 ≠ 0
      · have ht := fun x => Varint.takeR_any (s.extract k1 s.size) x (by rw [extract_size]; omega)
        generalize Varint.takeV (s.extract k1 s.size) = T at ht h2
        obtain ⟨p, q, r⟩ := T
        exact (t35_num b body w k f hf0 s hu n1 k1 p q r hk1 hi ht h2).mono fun _ _ h => RetT.no h
      · rw [if_neg h2] at hr; simp at hr
  | some W =>
    obtain ⟨n2, n1, d⟩ := W
    obtain ⟨k1, k2, hI, hn1, hk1, hT, hk2, hd⟩ := hsome hr
    obtain ⟨ht, hlt, _⟩ := htxt hr
    have hi := fun x => Ref02.int_any (inner body) 1048576 x (by omega) (by decide)
    rw [intV_good hI] at hi
    have htk := fun x => Varint.takeR_any ((inner body).extract k1 (inner body).size) x (by rw [extract_size]; omega)
    rw [hT] at htk
    have hdz : d.size ≤ 1022 := by rw [hd, extract_size]; omega
    have hrp : rp n2 n1 d = (Frame.headS 9 0 body.size ++ body, 0) := by
      unfold rp
      rw [if_neg (by unfold okB; simp; omega), show (n1 : Int).toNat = n1 by omega, ht, if_neg (by omega), hpad]
    have hput := fun x => put35 n2 n1 d x hlt (by omega)
    rw [hrp, hd] at hput
    by_cases ha : Frame.headS 9 0 body.size ++ body = b
    · obtain ⟨g1, g2, g3⟩ := hiff.1 ha
      rw [hrd (by rintro (h | h | h | h | h) <;> simp_all), hr]
      simp only [ha] at hput
      rw [hd]
      exact (t35_right b body w k f hf0 (inner body) hu n1 k1 n2 k2 hk1 hi htk hk2 (by omega) hput).mono fun _ _ h => RetT.is h
    · have hc : takes b = none := by
        by_cases g1 : n = b.size
        · by_cases g2 : k = 9
          · by_cases g3 : f = 0
            · exact absurd (hiff.2 ⟨g1, g2, g3⟩) ha
            · exact hno (Or.inr (Or.inr (Or.inr (Or.inl g3))))
          · exact hno (Or.inr (Or.inr (Or.inl g2)))
        · exact hno (Or.inr (Or.inl g1))
      rw [hc]
      exact (t35_other b body w k f hf0 (inner body) hu n1 k1 n2 k2 _ hk1 hi htk hk2 (by omega) hput ha).mono fun _ _ h => RetT.no h
end Go.Proofs.YtojkoedkecnccaaDoor.Reply
