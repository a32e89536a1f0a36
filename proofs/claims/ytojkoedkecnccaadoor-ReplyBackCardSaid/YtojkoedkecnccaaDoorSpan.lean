/-
  span.Reader: Read, Int, Num, Rest, Done: the walks.
-/
import Derived.Test.YtojkoedkecnccaaDoorRef01
import Derived.Laws.Pointers
import Derived.WalkSpells
namespace Go.Proofs.YtojkoedkecnccaaDoor.Span
open Go.RowKit Go.Proofs.YtojkoedkecnccaaDoor.Pad Go.Proofs.YtojkoedkecnccaaDoor.Varint
set_option linter.unusedVariables false
set_option linter.unusedSimpArgs false

/-- a reader at block B: its bytes, its place, what is wrong -/
def Rd (B : Nat) (b : ByteArray) (i e : Int) (W : World) : Prop := W.heap[B]? = some (.cells #[.string b, .int .i64 i, .int .i64 e] 98 (0, 0))

theorem Rd.lt {B : Nat} {b : ByteArray} {i e : Int} {W : World} (h : Rd B b i e W) : B < W.heap.size := lt_of_block h
theorem Rd.below {B : Nat} {b : ByteArray} {i e : Int} {W W' : World} (h : Rd B b i e W) (hb : Below W.heap.size W W') : Rd B b i e W' := (hb.block B h.lt).trans h
theorem Rd.cells {B : Nat} {b : ByteArray} {i e : Int} {W : World} (h : Rd B b i e W) : W.cell? ⟨B, 0, none⟩ = some (.string b) ∧ W.cell? ⟨B, 1, none⟩ = some (.int .i64 i) ∧ W.cell? ⟨B, 2, none⟩ = some (.int .i64 e) := by
  unfold Rd at h
  refine ⟨?_, ?_, ?_⟩ <;> simp [World.cell?, h]
theorem Rd.free {B : Nat} {b : ByteArray} {i e : Int} {W : World} (h : Rd B b i e W) (o : Nat) : W.frozen? ⟨B, o, none⟩ = false := by
  unfold Rd at h
  simp [World.frozen?, h]
theorem Rd.set1 {B : Nat} {b : ByteArray} {i e : Int} {W : World} (h : Rd B b i e W) (j : Int) : Rd B b j e (W.setCell ⟨B, 1, none⟩ (.int .i64 j)) := by
  unfold Rd at h ⊢
  rw [setCell_eq_setRow W B 1 _ _ _ _ h]
  exact (setRow_heap W B _ _ _ _ h).trans rfl
theorem Rd.set2 {B : Nat} {b : ByteArray} {i e : Int} {W : World} (h : Rd B b i e W) (j : Int) : Rd B b i j (W.setCell ⟨B, 2, none⟩ (.int .i64 j)) := by
  unfold Rd at h ⊢
  rw [setCell_eq_setRow W B 2 _ _ _ _ h]
  exact (setRow_heap W B _ _ _ _ h).trans rfl

theorem read_any (b : ByteArray) (w : World) :
    Calls Tryd.prog 43 #[.string b] w fun e w' => e = .returned (.pointer (some ⟨w.heap.size, 0, none⟩)) ∧ Rd w.heap.size b 0 0 w' ∧ Below w.heap.size w w' := by
  go_enter Tryd.func43, Tryd.ntmps43
  go_wp2
  go_ret
  exact ⟨rfl, heap_alloc_new w _, (Below.refl _ _).alloc (Nat.le_refl _) _⟩

set_option maxRecDepth 100000 in
theorem done_any (B : Nat) (b : ByteArray) (i e : Int) (w : World) (h : Rd B b i e w) :
    Calls Tryd.prog 47 #[.pointer (some ⟨B, 0, none⟩)] w fun r w' => r = .returned (.int .i64 (if e ≠ 0 then e else if i < b.size then 1 else 0)) ∧ Below w.heap.size w w' := by
  obtain ⟨c0, c1, c2⟩ := h.cells
  clear h
  by_cases he : e = 0
  · subst he
    by_cases hi : i < b.size
    · have hz : (if (0 : Int) ≠ 0 then (0 : Int) else if i < b.size then 1 else 0) = 1 := by rw [if_neg (by decide), if_pos hi]
      rw [hz]
      clear hz
      go_enter Tryd.func47, Tryd.ntmps47
      go_wp2
      go_quiet (fail)
      go_wp2
      go_ret
      exact ⟨rfl, by apply below_drewN; exact Below.refl _ _⟩
    · have hz : (if (0 : Int) ≠ 0 then (0 : Int) else if i < b.size then 1 else 0) = 0 := by rw [if_neg (by decide), if_neg hi]
      rw [hz]
      clear hz
      go_enter Tryd.func47, Tryd.ntmps47
      go_wp2
      go_quiet (fail)
      go_wp2
      go_ret
      exact ⟨rfl, by apply below_drewN; exact Below.refl _ _⟩
  · rw [if_pos he]
    have he' : (e != 0) = true := bne_iff_ne.2 he
    go_enter Tryd.func47, Tryd.ntmps47
    go_wp2
    go_ret
    exact ⟨rfl, Below.refl _ _⟩

theorem restf_any (b : ByteArray) (w : World) :
    Calls Tryd.prog 77 #[.string b] w fun r w' => r = .returned (.tuple #[.string b, .int .i64 b.size, .int .i64 0]) ∧ w = w' := by
  go_enter Tryd.func77, Tryd.ntmps77
  go_wp2
  refine bodyPost_ret (v := .tuple #[.string b, .int .i64 b.size, .int .i64 0]) (by simp [results, Tryd.results77, go_sem]) rfl ⟨rfl, rfl⟩

/-- what a number is, that is not too great: the number, how many bytes, error -/
def intV (b : ByteArray) (most : Nat) : Nat × Nat × Nat := ((takeV b).1, (takeV b).2.1, if (takeV b).2.2 = 0 ∧ most < (takeV b).1 then 3 else (takeV b).2.2)

set_option maxRecDepth 100000 in
theorem intf_any (b : ByteArray) (mb : Nat) (most : Nat) (w : World) (hb : b.size ≤ 140737488351232) (hm : w.cell? ⟨mb, 0, none⟩ = some (.int .i64 most)) (hmb : mb < w.heap.size) (hmost : most ≤ 1048576) :
    Calls Tryd.prog 73 #[.string b, .pointer (some ⟨mb, 0, none⟩)] w fun r w' => r = .returned (.tuple #[.int .i64 (IntKind.i64.wrap ((intV b most).1 : Int)), .int .i64 (intV b most).2.1, .int .i64 (intV b most).2.2]) ∧ w = w' := by
  have ht := fun x => take_any b x hb
  have hV : Hid (intV b most = ((takeV b).1, (takeV b).2.1, if (takeV b).2.2 = 0 ∧ most < (takeV b).1 then 3 else (takeV b).2.2)) := rfl
  generalize takeV b = T at ht hV
  obtain ⟨n, k, e⟩ := T
  replace hV : Hid (intV b most = (n, k, if e = 0 ∧ most < n then 3 else e)) := hV
  generalize intV b most = V at hV
  have m1 : max (most : Int) 0 = (most : Int) := by omega
  have m2 : IntKind.u64.wrap (most : Int) = (most : Int) := by rw [IntKind.wrap_u64]; omega
  by_cases he : e = 0
  · subst he
    by_cases hn : most < n
    · have hz : Hid (V = (n, k, 3)) := by show _ = _; rw [hV.out, if_pos ⟨rfl, hn⟩]
      have hn' : (most : Int) < (n : Int) := by omega
      clear hV
      go_enter Tryd.func73, Tryd.ntmps73
      go_wp2_with (go_at_call 74; refine (ht _).mono ?_; rintro e w1 ⟨rfl, rfl⟩)
      refine bodyPost_ret (v := .tuple #[.int .i64 (IntKind.i64.wrap (n : Int)), .int .i64 k, .int .i64 3]) (by simp [results, Tryd.results73, go_sem]; try first | rfl | exact (IntWalk.i64_in _ (by omega)).symm | exact (IntWalk.i64_left _).symm) rfl ⟨by rw [hz.out]; try rfl, rfl⟩
    · have hz : Hid (V = (n, k, 0)) := by show _ = _; rw [hV.out, if_neg (fun h => hn h.2)]
      have hn' : ¬ (most : Int) < (n : Int) := by omega
      clear hV
      go_enter Tryd.func73, Tryd.ntmps73
      go_wp2_with (go_at_call 74; refine (ht _).mono ?_; rintro e w1 ⟨rfl, rfl⟩)
      refine bodyPost_ret (v := .tuple #[.int .i64 (IntKind.i64.wrap (n : Int)), .int .i64 k, .int .i64 0]) (by simp [results, Tryd.results73, go_sem]; try first | rfl | exact (IntWalk.i64_in _ (by omega)).symm | exact (IntWalk.i64_left _).symm) rfl ⟨by rw [hz.out]; try rfl, rfl⟩
  · have hz : Hid (V = (n, k, e)) := by show _ = _; rw [hV.out, if_neg (fun h => he h.1)]
    have he' : ((e : Int) == 0) = false := beq_eq_false_iff_ne.2 (by omega)
    clear hV he
    go_enter Tryd.func73, Tryd.ntmps73
    go_wp2_with (go_at_call 74; refine (ht _).mono ?_; rintro e w1 ⟨rfl, rfl⟩)
    refine bodyPost_ret (v := .tuple #[.int .i64 (IntKind.i64.wrap (n : Int)), .int .i64 k, .int .i64 e]) (by simp [results, Tryd.results73, go_sem]; try first | rfl | exact (IntWalk.i64_in _ (by omega)).symm | exact (IntWalk.i64_left _).symm) rfl ⟨by rw [hz.out]; try rfl, rfl⟩

end Go.Proofs.YtojkoedkecnccaaDoor.Span
