/-
  The document's answers of layers 5 and 35: Put (and Fail): the walks.
-/
import Derived.Test.YtojkoedkecnccaaDoorReply
import Derived.Test.YtojkoedkecnccaaDoorRef01Put
namespace Go.Proofs.YtojkoedkecnccaaDoor.Reply
open Go.RowKit Go.Proofs.YtojkoedkecnccaaDoor.Pad
set_option linter.unusedVariables false
set_option linter.unusedSimpArgs false

theorem head_is (b : ByteArray) (hb : b.size ≤ 1024) : byteS 9 ++ byteS 0 ++ byteS ((b.size : Int) / 256) ++ byteS ((b.size : Int) % 256) ++ b = Frame.headS 9 0 b.size ++ b := by
  congr 1
  apply ba_ext
  have e1 : (((b.size : Int) / 256) % 256).toNat = b.size / 256 := by omega
  have e2 : ((b.size : Int) % 256).toNat = b.size % 256 := by omega
  unfold byteS Frame.headS
  simp [e1, e2]

set_option maxRecDepth 100000 in
set_option maxHeartbeats 1000000 in
theorem put05 (b : ByteArray) (w : World) (hb : b.size ≤ 1024) :
    Calls Tryd.prog 79 #[.agg #[.int .i64 9, .int .i64 0, .string b]] w fun e w' => e = .returned (.tuple #[.string (Frame.headS 9 0 b.size ++ b), .int .i64 0]) ∧ Below w.heap.size w w' := by
  have hz := Lib.hid (head_is b hb)
  have z : ∀ n, (byteS n).size = 1 := fun _ => rfl
  have y1 : ¬ 9223372036854775807 < 4 + b.size := by omega
  have y2 : ¬ (9223372036854775807 : Int) < 4 + (b.size : Int) := by omega
  have hb' : ¬ (1024 : Int) < (b.size : Int) := by omega
  have t1 : ((b.size : Int)).tdiv 256 = (b.size : Int) / 256 := Int.tdiv_eq_ediv_of_nonneg (by omega)
  have t2 : ((b.size : Int)).tmod 256 = (b.size : Int) % 256 := Int.tmod_eq_emod_of_nonneg (by omega)
  have t3 : IntKind.i64.wrap ((b.size : Int) / 256) = (b.size : Int) / 256 := IntWalk.i64_in _ (by omega)
  have t4 : IntKind.i64.wrap ((b.size : Int) % 256) = (b.size : Int) % 256 := IntWalk.i64_in _ (by omega)
  generalize Frame.headS 9 0 b.size ++ b = R at hz
  have bx : Hid (Box w.heap.size (.int .i64 9) (.int .i64 0) (.string b) w (w.alloc (.cells #[.int .i64 9, .int .i64 0, .string b] 58))) := Box.start
  go_enter Tryd.func79, Tryd.ntmps79
  go_wp2_with fail
  obtain ⟨c0, c1, c2, hB⟩ := bx.out
  clear bx
  go_region_held3 (fun x => x.cell? ⟨w.heap.size, 0, none⟩ = some (.int .i64 9) ∧ x.cell? ⟨w.heap.size, 1, none⟩ = some (.int .i64 0) ∧ x.cell? ⟨w.heap.size, 2, none⟩ = some (.string b) ∧ Hid (Below w.heap.size w x ∧ w.heap.size < x.heap.size))
    ((change Box _ _ _ _ _ _; repeat (first | (with_reducible assumption) | (change _ ∧ _; assumption) | (refine Box.mk ?_ ?_ ?_ ?_ <;> assumption) | (with_reducible refine Box.alloc ?_ _) | (with_reducible refine Box.drew ?_) | focus (apply Box.call; rotate_left 1; with_reducible assumption))))
    (first
    | (go_at_call 62; refine (byte_any _ _).mono ?_
       rintro e w1 ⟨rfl, g1⟩))
  go_wp2
  go_ret2
  refine ⟨by rw [← hz.out]; rfl, ?_⟩
  exact Box.below (x := .int .i64 9) (y := .int .i64 0) (z := .string b) (by first | assumption | (refine Box.mk ?_ ?_ ?_ ?_ <;> assumption))

set_option maxRecDepth 100000 in
set_option maxHeartbeats 1000000 in
theorem put35 (id : Nat) (st : Int) (d : ByteArray) (w : World) (hid : id < 18446744073709551616) (hd : d.size ≤ 140737488351232) :
    Calls Tryd.prog 51 #[.agg #[.int .u64 id, .int .i64 st, .string d]] w fun e w' => e = .returned (.tuple #[.string (rp id st d).1, .int .i64 (rp id st d).2]) ∧ Below w.heap.size w w' := by
  by_cases hob : okB st = false
  · have hz : Hid (rp id st d = (⟨#[]⟩, 1)) := by show _ = _; unfold rp; rw [if_pos hob]
    generalize rp id st d = z at hz
    by_cases h0 : st < 0
    · clear hob
      go_enter Tryd.func51, Tryd.ntmps51
      go_wp2
      go_ret2
      exact ⟨by rw [hz.out]; rfl, (Below.refl _ _).alloc (Nat.le_refl _) _⟩
    · have h1 : 1048576 < st := by
        unfold okB at hob
        rw [Bool.and_eq_false_iff] at hob
        rcases hob with h | h <;> simp at h <;> omega
      clear hob
      go_enter Tryd.func51, Tryd.ntmps51
      go_wp2
      go_ret2
      exact ⟨by rw [hz.out]; rfl, (Below.refl _ _).alloc (Nat.le_refl _) _⟩
  · have hst : 0 ≤ st ∧ st ≤ 1048576 := by unfold okB at hob; simpa using hob
    obtain ⟨s, rfl⟩ : ∃ s : Nat, st = (s : Int) := ⟨st.toNat, by omega⟩
    have h0 : ¬ (s : Int) < 0 := by omega
    have h1 : ¬ (1048576 : Int) < (s : Int) := by omega
    have e1 : IntKind.u64.wrap (s : Int) = (s : Int) := by rw [IntKind.wrap_u64]; omega
    have vv := fun n x (h : n < 18446744073709551616) => Varint.putR_any n x h
    have hs64 : s < 18446744073709551616 := by omega
    have hts := txt_size id s d
    have hs1 : (Varint.vB s).size ≤ 10 := by rw [Varint.vB_size]; exact Varint.vL_le _
    have hs2 : (Varint.vB id).size ≤ 10 := by rw [Varint.vB_size]; exact Varint.vL_le _
    have y1 : ¬ 9223372036854775807 < (Varint.vB s).size + (Varint.vB id).size := by omega
    have y2 : ¬ 9223372036854775807 < (Varint.vB s).size + (Varint.vB id).size + d.size := by omega
    have hT : Varint.vB s ++ Varint.vB id ++ d = txt id s d := rfl
    by_cases hl : 1022 < (txt id s d).size
    · have hz : Hid (rp id s d = (⟨#[]⟩, 3)) := by show _ = _; unfold rp; rw [if_neg hob, if_pos (by simpa using hl)]
      generalize rp id s d = z at hz
      have hp := fun x => padR_long (txt id s d) x hl (by omega)
      generalize txt id s d = T at hp hts hT
      clear hob hl
      have bx : Hid (Box w.heap.size (.int .u64 id) (.int .i64 s) (.string d) w (w.alloc (.cells #[.int .u64 id, .int .i64 s, .string d] 33))) := Box.start
      go_enter Tryd.func51, Tryd.ntmps51
      go_wp2_with fail
      obtain ⟨c0, c1, c2, hB⟩ := bx.out
      clear bx
      go_region_held3 (fun x => x.cell? ⟨w.heap.size, 0, none⟩ = some (.int .u64 id) ∧ x.cell? ⟨w.heap.size, 1, none⟩ = some (.int .i64 s) ∧ x.cell? ⟨w.heap.size, 2, none⟩ = some (.string d) ∧ Hid (Below w.heap.size w x ∧ w.heap.size < x.heap.size))
        ((change Box _ _ _ _ _ _; repeat (first | (with_reducible assumption) | (change _ ∧ _; assumption) | (refine Box.mk ?_ ?_ ?_ ?_ <;> assumption) | (with_reducible refine Box.alloc ?_ _) | (with_reducible refine Box.drew ?_) | focus (apply Box.call; rotate_left 1; with_reducible assumption))))
        (first
        | (go_at_call 78; refine Calls.mono (vv _ _ (by first | exact hs64 | exact hid)) ?_
           rintro e w1 ⟨rfl, g1⟩)
        | (go_at_call 35; refine (hp _).mono ?_
           rintro e w1 ⟨rfl, g1⟩))
      go_wp2
      go_ret2
      refine ⟨by rw [hz.out]; rfl, ?_⟩
      exact Box.below (x := .int .u64 id) (y := .int .i64 s) (z := .string d) (by first | assumption | (refine Box.mk ?_ ?_ ?_ ?_ <;> assumption))
    · have hz : Hid (rp id s d = (Frame.headS 9 0 (padF (txt id s d)).size ++ padF (txt id s d), 0)) := by show _ = _; unfold rp; rw [if_neg hob, if_neg (by simpa using hl)]; rfl
      generalize rp id s d = z at hz
      have hp := fun x => padR_fits (txt id s d) x (by omega)
      have hpl : (padF (txt id s d)).size ≤ 1024 := by have := padF_size (txt id s d) (by omega); have := cls_room (txt id s d).size (by omega); omega
      have hfp := fun x => put05 (padF (txt id s d)) x hpl
      generalize Frame.headS 9 0 (padF (txt id s d)).size ++ padF (txt id s d) = Z at hfp hz
      generalize padF (txt id s d) = P at hp hfp hpl
      generalize txt id s d = T at hp hts hT
      clear hob hl
      have bx : Hid (Box w.heap.size (.int .u64 id) (.int .i64 s) (.string d) w (w.alloc (.cells #[.int .u64 id, .int .i64 s, .string d] 33))) := Box.start
      go_enter Tryd.func51, Tryd.ntmps51
      go_wp2_with fail
      obtain ⟨c0, c1, c2, hB⟩ := bx.out
      clear bx
      go_region_held3 (fun x => x.cell? ⟨w.heap.size, 0, none⟩ = some (.int .u64 id) ∧ x.cell? ⟨w.heap.size, 1, none⟩ = some (.int .i64 s) ∧ x.cell? ⟨w.heap.size, 2, none⟩ = some (.string d) ∧ Hid (Below w.heap.size w x ∧ w.heap.size < x.heap.size))
        ((change Box _ _ _ _ _ _; repeat (first | (with_reducible assumption) | (change _ ∧ _; assumption) | (refine Box.mk ?_ ?_ ?_ ?_ <;> assumption) | (with_reducible refine Box.alloc ?_ _) | (with_reducible refine Box.drew ?_) | focus (apply Box.call; rotate_left 1; with_reducible assumption))))
        (first
        | (go_at_call 78; refine Calls.mono (vv _ _ (by first | exact hs64 | exact hid)) ?_
           rintro e w1 ⟨rfl, g1⟩)
        | (go_at_call 35; refine (hp _).mono ?_
           rintro e w1 ⟨rfl, g1⟩))
      go_wp2_with (go_at_call 79; refine (hfp _).mono ?_; rintro e w9 ⟨rfl, g9⟩)
      go_ret2
      refine ⟨by rw [hz.out]; rfl, ?_⟩
      exact (Box.call (x := .int .u64 id) (y := .int .i64 s) (z := .string d) (by first | assumption | (refine Box.mk ?_ ?_ ?_ ?_ <;> assumption)) g9).below

end Go.Proofs.YtojkoedkecnccaaDoor.Reply
