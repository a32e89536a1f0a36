/-
  span.take[T], (*Reader).Int, Num, Rest: the walks.
-/
import Derived.Test.YtojkoedkecnccaaDoorSpan
namespace Go.Proofs.YtojkoedkecnccaaDoor.Span
open Go.RowKit Go.Proofs.YtojkoedkecnccaaDoor.Pad Go.Proofs.YtojkoedkecnccaaDoor.Varint
set_option linter.unusedVariables false
set_option linter.unusedSimpArgs false

set_option maxRecDepth 100000 in
set_option maxHeartbeats 1000000 in
theorem take_int_bad (B : Nat) (b : ByteArray) (i e : Int) (w : World) (h : Rd B b i e w) (he : e ≠ 0) (mb : Nat) (most : Nat) (hmc : w.cell? ⟨mb, 0, none⟩ = some (.int .i64 most)) :
    Calls Tryd.prog 72 #[.pointer (some ⟨B, 0, none⟩), .func (.func 73) #[] #[.pointer (some ⟨mb, 0, none⟩)]] w fun r w' => r = .returned (.int .i64 0) ∧ w = w' := by
  obtain ⟨c0, c1, c2⟩ := h.cells
  have he' : (e != 0) = true := bne_iff_ne.2 he
  clear h he
  go_enter Tryd.func72, Tryd.ntmps72
  go_wp2
  go_ret
  exact ⟨rfl, rfl⟩

set_option maxRecDepth 100000 in
set_option maxHeartbeats 1000000 in
theorem take_int_wrong (B : Nat) (b : ByteArray) (i : Nat) (x : Int) (k : Nat) (e : Int) (w : World) (h : Rd B b i 0 w) (hi : i ≤ b.size) (hb : b.size ≤ 140737488351232) (mb : Nat) (most : Nat) (hmc : w.cell? ⟨mb, 0, none⟩ = some (.int .i64 most)) (he : e ≠ 0)
    (hc : ∀ W, W.cell? ⟨mb, 0, none⟩ = some (.int .i64 most) → Calls Tryd.prog 73 #[.string (b.extract i b.size), .pointer (some ⟨mb, 0, none⟩)] W fun r w' => r = .returned (.tuple #[.int .i64 x, .int .i64 k, .int .i64 e]) ∧ W = w') :
    Calls Tryd.prog 72 #[.pointer (some ⟨B, 0, none⟩), .func (.func 73) #[] #[.pointer (some ⟨mb, 0, none⟩)]] w fun r w' => r = .returned (.int .i64 0) ∧ Rd B b i e w' ∧ Below B w w' := by
  obtain ⟨c0, c1, c2⟩ := h.cells
  have f1 := h.free 1
  have f2 := h.free 2
  have hr := Lib.hid h
  have hq : Hid (Rd B b i 0 w.drew ∧ Below B w w.drew) := ⟨h, (Below.refl _ _).drew⟩
  have i0 : (0 : Int) ≤ (i : Int) := by omega
  have i1 : (i : Int) ≤ (b.size : Int) := by omega
  have he' : (e != 0) = true := bne_iff_ne.2 he
  clear h
  go_enter Tryd.func72, Tryd.ntmps72
  go_wp2
  go_region_held3 (fun x => x.cell? ⟨B, 0, none⟩ = some (.string b) ∧ x.cell? ⟨B, 1, none⟩ = some (.int .i64 i) ∧ x.cell? ⟨B, 2, none⟩ = some (.int .i64 0) ∧ x.frozen? ⟨B, 1, none⟩ = false ∧ x.frozen? ⟨B, 2, none⟩ = false ∧ x.cell? ⟨mb, 0, none⟩ = some (.int .i64 most) ∧ Hid (Rd B b i 0 x ∧ Below B w x))
    (first | assumption | exact ⟨c0, c1, c2, f1, f2, hmc, hq⟩)
    (first | (go_at_call 73; refine (hc w.drew hmc).mono ?_; rintro r w1 ⟨rfl, rfl⟩))
  go_wp2
  go_ret
  exact ⟨rfl, hq.out.1.set2 _, hq.out.2.setCell (Nat.le_refl _) _⟩

set_option maxRecDepth 100000 in
set_option maxHeartbeats 1000000 in
theorem take_int_right (B : Nat) (b : ByteArray) (i : Nat) (x : Int) (k : Nat) (w : World) (h : Rd B b i 0 w) (hi : i ≤ b.size) (hb : b.size ≤ 140737488351232) (mb : Nat) (most : Nat) (hmc : w.cell? ⟨mb, 0, none⟩ = some (.int .i64 most)) (hk : i + k ≤ b.size)
    (hc : ∀ W, W.cell? ⟨mb, 0, none⟩ = some (.int .i64 most) → Calls Tryd.prog 73 #[.string (b.extract i b.size), .pointer (some ⟨mb, 0, none⟩)] W fun r w' => r = .returned (.tuple #[.int .i64 x, .int .i64 k, .int .i64 0]) ∧ W = w') :
    Calls Tryd.prog 72 #[.pointer (some ⟨B, 0, none⟩), .func (.func 73) #[] #[.pointer (some ⟨mb, 0, none⟩)]] w fun r w' => r = .returned (.int .i64 x) ∧ Rd B b ((i + k : Nat) : Int) 0 w' ∧ Below B w w' := by
  obtain ⟨c0, c1, c2⟩ := h.cells
  have f1 := h.free 1
  have f2 := h.free 2
  have hr := Lib.hid h
  have hq : Hid (Rd B b i 0 w.drew ∧ Below B w w.drew) := ⟨h, (Below.refl _ _).drew⟩
  have i0 : (0 : Int) ≤ (i : Int) := by omega
  have i1 : (i : Int) ≤ (b.size : Int) := by omega
  have e1 : IntKind.i64.wrap ((i : Int) + (k : Int)) = ((i + k : Nat) : Int) := by rw [IntWalk.i64_in _ (by omega)]; omega
  clear h
  go_enter Tryd.func72, Tryd.ntmps72
  go_wp2
  go_region_held3 (fun x => x.cell? ⟨B, 0, none⟩ = some (.string b) ∧ x.cell? ⟨B, 1, none⟩ = some (.int .i64 i) ∧ x.cell? ⟨B, 2, none⟩ = some (.int .i64 0) ∧ x.frozen? ⟨B, 1, none⟩ = false ∧ x.frozen? ⟨B, 2, none⟩ = false ∧ x.cell? ⟨mb, 0, none⟩ = some (.int .i64 most) ∧ Hid (Rd B b i 0 x ∧ Below B w x))
    (first | assumption | exact ⟨c0, c1, c2, f1, f2, hmc, hq⟩)
    (first | (go_at_call 73; refine (hc w.drew hmc).mono ?_; rintro r w1 ⟨rfl, rfl⟩))
  go_wp2
  go_ret
  exact ⟨rfl, hq.out.1.set1 _, hq.out.2.setCell (Nat.le_refl _) _⟩

set_option maxRecDepth 100000 in
set_option maxHeartbeats 1000000 in
theorem take_num_bad (B : Nat) (b : ByteArray) (i e : Int) (w : World) (h : Rd B b i e w) (he : e ≠ 0)  :
    Calls Tryd.prog 75 #[.pointer (some ⟨B, 0, none⟩), .func (.func 74) #[] #[]] w fun r w' => r = .returned (.int .u64 0) ∧ w = w' := by
  obtain ⟨c0, c1, c2⟩ := h.cells
  have he' : (e != 0) = true := bne_iff_ne.2 he
  clear h he
  go_enter Tryd.func75, Tryd.ntmps75
  go_wp2
  go_ret
  exact ⟨rfl, rfl⟩

set_option maxRecDepth 100000 in
set_option maxHeartbeats 1000000 in
theorem take_num_wrong (B : Nat) (b : ByteArray) (i : Nat) (x : Int) (k : Nat) (e : Int) (w : World) (h : Rd B b i 0 w) (hi : i ≤ b.size) (hb : b.size ≤ 140737488351232)  (he : e ≠ 0)
    (hc : ∀ W, Calls Tryd.prog 74 #[.string (b.extract i b.size)] W fun r w' => r = .returned (.tuple #[.int .u64 x, .int .i64 k, .int .i64 e]) ∧ W = w') :
    Calls Tryd.prog 75 #[.pointer (some ⟨B, 0, none⟩), .func (.func 74) #[] #[]] w fun r w' => r = .returned (.int .u64 0) ∧ Rd B b i e w' ∧ Below B w w' := by
  obtain ⟨c0, c1, c2⟩ := h.cells
  have f1 := h.free 1
  have f2 := h.free 2
  have hr := Lib.hid h
  have hq : Hid (Rd B b i 0 w.drew ∧ Below B w w.drew) := ⟨h, (Below.refl _ _).drew⟩
  have i0 : (0 : Int) ≤ (i : Int) := by omega
  have i1 : (i : Int) ≤ (b.size : Int) := by omega
  have he' : (e != 0) = true := bne_iff_ne.2 he
  clear h
  go_enter Tryd.func75, Tryd.ntmps75
  go_wp2
  go_region_held3 (fun x => x.cell? ⟨B, 0, none⟩ = some (.string b) ∧ x.cell? ⟨B, 1, none⟩ = some (.int .i64 i) ∧ x.cell? ⟨B, 2, none⟩ = some (.int .i64 0) ∧ x.frozen? ⟨B, 1, none⟩ = false ∧ x.frozen? ⟨B, 2, none⟩ = false ∧ Hid (Rd B b i 0 x ∧ Below B w x))
    (first | assumption | exact ⟨c0, c1, c2, f1, f2, hq⟩)
    (first | (go_at_call 74; refine (hc w.drew).mono ?_; rintro r w1 ⟨rfl, rfl⟩))
  go_wp2
  go_ret
  exact ⟨rfl, hq.out.1.set2 _, hq.out.2.setCell (Nat.le_refl _) _⟩

set_option maxRecDepth 100000 in
set_option maxHeartbeats 1000000 in
theorem take_num_right (B : Nat) (b : ByteArray) (i : Nat) (x : Int) (k : Nat) (w : World) (h : Rd B b i 0 w) (hi : i ≤ b.size) (hb : b.size ≤ 140737488351232)  (hk : i + k ≤ b.size)
    (hc : ∀ W, Calls Tryd.prog 74 #[.string (b.extract i b.size)] W fun r w' => r = .returned (.tuple #[.int .u64 x, .int .i64 k, .int .i64 0]) ∧ W = w') :
    Calls Tryd.prog 75 #[.pointer (some ⟨B, 0, none⟩), .func (.func 74) #[] #[]] w fun r w' => r = .returned (.int .u64 x) ∧ Rd B b ((i + k : Nat) : Int) 0 w' ∧ Below B w w' := by
  obtain ⟨c0, c1, c2⟩ := h.cells
  have f1 := h.free 1
  have f2 := h.free 2
  have hr := Lib.hid h
  have hq : Hid (Rd B b i 0 w.drew ∧ Below B w w.drew) := ⟨h, (Below.refl _ _).drew⟩
  have i0 : (0 : Int) ≤ (i : Int) := by omega
  have i1 : (i : Int) ≤ (b.size : Int) := by omega
  have e1 : IntKind.i64.wrap ((i : Int) + (k : Int)) = ((i + k : Nat) : Int) := by rw [IntWalk.i64_in _ (by omega)]; omega
  clear h
  go_enter Tryd.func75, Tryd.ntmps75
  go_wp2
  go_region_held3 (fun x => x.cell? ⟨B, 0, none⟩ = some (.string b) ∧ x.cell? ⟨B, 1, none⟩ = some (.int .i64 i) ∧ x.cell? ⟨B, 2, none⟩ = some (.int .i64 0) ∧ x.frozen? ⟨B, 1, none⟩ = false ∧ x.frozen? ⟨B, 2, none⟩ = false ∧ Hid (Rd B b i 0 x ∧ Below B w x))
    (first | assumption | exact ⟨c0, c1, c2, f1, f2, hq⟩)
    (first | (go_at_call 74; refine (hc w.drew).mono ?_; rintro r w1 ⟨rfl, rfl⟩))
  go_wp2
  go_ret
  exact ⟨rfl, hq.out.1.set1 _, hq.out.2.setCell (Nat.le_refl _) _⟩

set_option maxRecDepth 100000 in
set_option maxHeartbeats 1000000 in
theorem take_rest_bad (B : Nat) (b : ByteArray) (i e : Int) (w : World) (h : Rd B b i e w) (he : e ≠ 0)  :
    Calls Tryd.prog 76 #[.pointer (some ⟨B, 0, none⟩), .func (.func 77) #[] #[]] w fun r w' => r = .returned (.string ⟨#[]⟩) ∧ w = w' := by
  obtain ⟨c0, c1, c2⟩ := h.cells
  have he' : (e != 0) = true := bne_iff_ne.2 he
  clear h he
  go_enter Tryd.func76, Tryd.ntmps76
  go_wp2
  go_ret
  exact ⟨rfl, rfl⟩

set_option maxRecDepth 100000 in
set_option maxHeartbeats 1000000 in
theorem take_rest_wrong (B : Nat) (b : ByteArray) (i : Nat) (x : ByteArray) (k : Nat) (e : Int) (w : World) (h : Rd B b i 0 w) (hi : i ≤ b.size) (hb : b.size ≤ 140737488351232)  (he : e ≠ 0)
    (hc : ∀ W, Calls Tryd.prog 77 #[.string (b.extract i b.size)] W fun r w' => r = .returned (.tuple #[.string x, .int .i64 k, .int .i64 e]) ∧ W = w') :
    Calls Tryd.prog 76 #[.pointer (some ⟨B, 0, none⟩), .func (.func 77) #[] #[]] w fun r w' => r = .returned (.string ⟨#[]⟩) ∧ Rd B b i e w' ∧ Below B w w' := by
  obtain ⟨c0, c1, c2⟩ := h.cells
  have f1 := h.free 1
  have f2 := h.free 2
  have hr := Lib.hid h
  have hq : Hid (Rd B b i 0 w.drew ∧ Below B w w.drew) := ⟨h, (Below.refl _ _).drew⟩
  have i0 : (0 : Int) ≤ (i : Int) := by omega
  have i1 : (i : Int) ≤ (b.size : Int) := by omega
  have he' : (e != 0) = true := bne_iff_ne.2 he
  clear h
  go_enter Tryd.func76, Tryd.ntmps76
  go_wp2
  go_region_held3 (fun x => x.cell? ⟨B, 0, none⟩ = some (.string b) ∧ x.cell? ⟨B, 1, none⟩ = some (.int .i64 i) ∧ x.cell? ⟨B, 2, none⟩ = some (.int .i64 0) ∧ x.frozen? ⟨B, 1, none⟩ = false ∧ x.frozen? ⟨B, 2, none⟩ = false ∧ Hid (Rd B b i 0 x ∧ Below B w x))
    (first | assumption | exact ⟨c0, c1, c2, f1, f2, hq⟩)
    (first | (go_at_call 77; refine (hc w.drew).mono ?_; rintro r w1 ⟨rfl, rfl⟩))
  go_wp2
  go_ret
  exact ⟨rfl, hq.out.1.set2 _, hq.out.2.setCell (Nat.le_refl _) _⟩

set_option maxRecDepth 100000 in
set_option maxHeartbeats 1000000 in
theorem take_rest_right (B : Nat) (b : ByteArray) (i : Nat) (x : ByteArray) (k : Nat) (w : World) (h : Rd B b i 0 w) (hi : i ≤ b.size) (hb : b.size ≤ 140737488351232)  (hk : i + k ≤ b.size)
    (hc : ∀ W, Calls Tryd.prog 77 #[.string (b.extract i b.size)] W fun r w' => r = .returned (.tuple #[.string x, .int .i64 k, .int .i64 0]) ∧ W = w') :
    Calls Tryd.prog 76 #[.pointer (some ⟨B, 0, none⟩), .func (.func 77) #[] #[]] w fun r w' => r = .returned (.string x) ∧ Rd B b ((i + k : Nat) : Int) 0 w' ∧ Below B w w' := by
  obtain ⟨c0, c1, c2⟩ := h.cells
  have f1 := h.free 1
  have f2 := h.free 2
  have hr := Lib.hid h
  have hq : Hid (Rd B b i 0 w.drew ∧ Below B w w.drew) := ⟨h, (Below.refl _ _).drew⟩
  have i0 : (0 : Int) ≤ (i : Int) := by omega
  have i1 : (i : Int) ≤ (b.size : Int) := by omega
  have e1 : IntKind.i64.wrap ((i : Int) + (k : Int)) = ((i + k : Nat) : Int) := by rw [IntWalk.i64_in _ (by omega)]; omega
  clear h
  go_enter Tryd.func76, Tryd.ntmps76
  go_wp2
  go_region_held3 (fun x => x.cell? ⟨B, 0, none⟩ = some (.string b) ∧ x.cell? ⟨B, 1, none⟩ = some (.int .i64 i) ∧ x.cell? ⟨B, 2, none⟩ = some (.int .i64 0) ∧ x.frozen? ⟨B, 1, none⟩ = false ∧ x.frozen? ⟨B, 2, none⟩ = false ∧ Hid (Rd B b i 0 x ∧ Below B w x))
    (first | assumption | exact ⟨c0, c1, c2, f1, f2, hq⟩)
    (first | (go_at_call 77; refine (hc w.drew).mono ?_; rintro r w1 ⟨rfl, rfl⟩))
  go_wp2
  go_ret
  exact ⟨rfl, hq.out.1.set1 _, hq.out.2.setCell (Nat.le_refl _) _⟩
end Go.Proofs.YtojkoedkecnccaaDoor.Span
