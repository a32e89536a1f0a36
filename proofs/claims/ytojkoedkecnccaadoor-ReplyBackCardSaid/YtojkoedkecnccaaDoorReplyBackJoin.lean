/-
  ReplyBack: the statement's walk: the cases brought together.
-/
import Derived.Test.YtojkoedkecnccaaDoorReplyBackLawCy
import Derived.Test.YtojkoedkecnccaaDoorReplyBackLawCn
namespace Go.Proofs.YtojkoedkecnccaaDoor.ReplyBackLaw
open Go.RowKit Go.Proofs.YtojkoedkecnccaaDoor.Pad Go.Proofs.YtojkoedkecnccaaDoor.Reply Go.Proofs.YtojkoedkecnccaaDoor.ReplyTakesLaw
set_option linter.unusedVariables false
set_option linter.unusedSimpArgs false

theorem take_of {s : ByteArray} {i t : Nat} {d : ByteArray} (hs : s.size ≤ 140737488351232) (h : takes s = some (i, t, d)) : TakeIs s i t d 0 := fun x => by
  have := takeReply_any s x hs
  rw [h] at this
  exact this
theorem take_no {s : ByteArray} (hs : s.size ≤ 140737488351232) (h : takes s = none) : TakeIs s 0 0 ⟨#[]⟩ 1 := fun x => by
  have := takeReply_any s x hs
  rw [h] at this
  exact this

theorem rp_size (id : Nat) (st : Int) (d : ByteArray) : (rp id st d).1.size ≤ 1028 := by
  unfold rp
  repeat' split
  · exact Nat.zero_le _
  · exact Nat.zero_le _
  · rename_i h
    have := padF_size (txt id st.toNat d) (by omega)
    have := cls_room (txt id st.toNat d).size (by omega)
    rw [ByteArray.size_append]
    have : (Frame.headS 9 0 (padF (txt id st.toNat d)).size).size = 4 := rfl
    omega

theorem walk {p : Prop} (id : Nat) (st : Int) (d b : ByteArray) (w : World) (hd : d.size ≤ 140737488351232) (hid : id < 18446744073709551616) (hb : b.size ≤ 140737488351232) (tabs : p) :
    Calls Tryd.prog 10 #[.agg #[.int .u64 id, .int .i64 st, .string d], .string b] w fun e w' => e = .returned (.bool true) ∧ Below w.heap.size w w' := by
  have pa : PutIs id st d (rp id st d).1 (rp id st d).2 := fun x => put_any id st d x hid hd
  have pf : FailIs id st (rp id (fst' st) ⟨#[]⟩).1 := fun x => fail_any id st x hid
  have ta := take_of (Nat.le_trans (rp_size id (fst' st) ⟨#[]⟩) (by decide)) (fail_takes id st hid)
  have hsz := rp_size id st d
  have hy : (∃ yi yt yd, TakeIs b yi yt yd 0 ∧ PutIs yi yt yd b 0) ∨ TakeIs b 0 0 ⟨#[]⟩ 1 := by
    cases h : takes b with
    | none => exact Or.inr (take_no hb h)
    | some V =>
      obtain ⟨yi, yt, yd⟩ := V
      obtain ⟨h1, h2, h3, h4⟩ := takes_back h
      left
      refine ⟨yi, yt, yd, take_of hb h, fun x => ?_⟩
      have := put_any yi yt yd x h2 (by omega)
      rw [h1] at this
      exact this
  have hst : okB st = true → 0 ≤ st ∧ st ≤ 1048576 := fun h => by unfold okB at h; simpa using h
  have hbad : okB st = false → fst' st = 1 := fun h => by unfold fst'; rw [if_neg (by rw [h]; simp)]
  have hgood : okB st = true → fst' st = st := fun h => by unfold fst'; rw [if_pos h]
  generalize hA : (rp id (fst' st) ⟨#[]⟩).1 = a at pf ta
  rcases put_takes id st d hid with ⟨ho, hr⟩ | ⟨ho, hl, hr⟩ | ⟨ho, s, hr, ht⟩
  · rw [hr] at pa
    have ts := take_no (s := ⟨#[]⟩) (by decide) takes_empty
    rw [hbad ho] at ta
    have hc : st < 0 ∨ 1048576 < st := by
      unfold okB at ho
      rw [Bool.and_eq_false_iff] at ho
      rcases ho with h | h <;> simp at h <;> omega
    rcases hc with h0 | h0 <;> rcases hy with ⟨yi, yt, yd, ty, py⟩ | ty
    · exact a1y id st d _ a b yi yt yd w pa ts pf ta ty py h0
    · exact a1n id st d _ a b 0 0 ⟨#[]⟩ w pa ts pf ta ty h0
    · exact a2y id st d _ a b yi yt yd w pa ts pf ta ty py h0
    · exact a2n id st d _ a b 0 0 ⟨#[]⟩ w pa ts pf ta ty h0
  · rw [hr] at pa
    have ts := take_no (s := ⟨#[]⟩) (by decide) takes_empty
    rw [hgood ho] at ta
    obtain ⟨h0, h1⟩ := hst ho
    by_cases h2 : st < 128 <;> rcases hy with ⟨yi, yt, yd, ty, py⟩ | ty
    · exact b1y id st d _ a b yi yt yd w pa ts pf ta ty py h0 h2 (long_of h0 h2 hl)
    · exact b1n id st d _ a b 0 0 ⟨#[]⟩ w pa ts pf ta ty h0 h2 (long_of h0 h2 hl)
    · exact b2y id st d _ a b yi yt yd w pa ts pf ta ty py (by omega) h1
    · exact b2n id st d _ a b 0 0 ⟨#[]⟩ w pa ts pf ta ty (by omega) h1
  · rw [hr] at pa hsz
    have ts := take_of (s := s) (by simp only at hsz; omega) ht
    rw [hgood ho] at ta
    obtain ⟨h0, h1⟩ := hst ho
    by_cases h2 : st < 128 <;> rcases hy with ⟨yi, yt, yd, ty, py⟩ | ty
    · cases hl : longB d.size with
      | false => exact c1y id st d _ a b yi yt yd w pa ts pf ta ty py h0 h2 hl
      | true => exact c2y id st d _ a b yi yt yd w pa ts pf ta ty py h0 h2 hl
    · cases hl : longB d.size with
      | false => exact c1n id st d _ a b 0 0 ⟨#[]⟩ w pa ts pf ta ty h0 h2 hl
      | true => exact c2n id st d _ a b 0 0 ⟨#[]⟩ w pa ts pf ta ty h0 h2 hl
    · exact c3y id st d _ a b yi yt yd w pa ts pf ta ty py (by omega) h1
    · exact c3n id st d _ a b 0 0 ⟨#[]⟩ w pa ts pf ta ty (by omega) h1
end Go.Proofs.YtojkoedkecnccaaDoor.ReplyBackLaw
