/-
  Chapter 49's statements: a row, and a note, as the program has them: the walks.
-/
import Derived.Test.YteejogoiikmlgaaGreatDoorTAwake
namespace Go.Proofs.YteejogoiikmlgaaGreatDoor.Serv
open Go.RowKit
set_option linter.unusedVariables false
set_option linter.unusedSimpArgs false
set_option linter.unnecessarySimpa false

set_option maxRecDepth 100000 in
set_option maxHeartbeats 2000000 in
theorem note_any (cn ow kd : Int) (bd : ByteArray) (er : Int) (rp : ByteArray) (w : World) :
    Calls Tryz.prog 27 #[.agg #[.int .i64 cn, .int .i64 ow, .int .i64 kd, .string bd, .int .i64 er, .string rp]] w fun e w' => e = .returned (.agg #[.int .i64 cn, .int .i64 ow, .int .i64 kd, .string bd, .int .i64 er, .string rp]) ∧ Below w.heap.size w w' := by
  go_enter Tryz.func27, Tryz.ntmps27
  go_wp2
  refine bodyPost_ret (v := .agg #[.int .i64 cn, .int .i64 ow, .int .i64 kd, .string bd, .int .i64 er, .string rp]) (by simp [results, Tryz.results27, go_sem]) rfl ⟨rfl, ?_⟩
  repeat (first | exact Below.refl _ _ | apply below_drewN | apply Below.drew | refine Below.setCell ?_ (by simp) _ | refine Below.alloc ?_ (by simp) _)

set_option maxRecDepth 100000 in
set_option maxHeartbeats 4000000 in
theorem rowOf_any (a act cn ow kd : Int) (bd : ByteArray) (er : Int) (rp : ByteArray) (w : World) :
    Calls Tryz.prog 9 #[.agg #[.int .i64 a, .int .i64 act, .int .i64 cn, .int .i64 ow, .int .i64 kd, .string bd, .int .i64 er, .string rp]] w fun e w' => e = .returned (.agg #[.int .i64 a, .int .i64 act, .int .i64 cn, .int .i64 ow, .int .i64 kd, .string bd, .int .i64 er, .string rp]) ∧ Below w.heap.size w w' := by
  have hn := fun x => note_any cn ow kd bd er rp x
  have hb0 : Hid (Blk w.heap.size #[.int .i64 a, .int .i64 act, .int .i64 cn, .int .i64 ow, .int .i64 kd, .string bd, .int .i64 er, .string rp] 36 ((w.alloc (.cells #[.int .i64 a, .int .i64 act, .int .i64 cn, .int .i64 ow, .int .i64 kd, .string bd, .int .i64 er, .string rp] 36)).alloc (.cells #[.int .i64 0, .int .i64 0, .int .i64 0, .int .i64 0, .int .i64 0, .string ⟨#[]⟩, .int .i64 0, .string ⟨#[]⟩] 32))) := (Blk.new w _ _).below ((Below.refl _ _).alloc (Nat.le_refl _) _)
  have hb1 : Hid (Blk (w.heap.size + 1) #[.int .i64 0, .int .i64 0, .int .i64 0, .int .i64 0, .int .i64 0, .string ⟨#[]⟩, .int .i64 0, .string ⟨#[]⟩] 32 ((w.alloc (.cells #[.int .i64 a, .int .i64 act, .int .i64 cn, .int .i64 ow, .int .i64 kd, .string bd, .int .i64 er, .string rp] 36)).alloc (.cells #[.int .i64 0, .int .i64 0, .int .i64 0, .int .i64 0, .int .i64 0, .string ⟨#[]⟩, .int .i64 0, .string ⟨#[]⟩] 32))) := by
    have := Blk.new (w.alloc (.cells #[.int .i64 a, .int .i64 act, .int .i64 cn, .int .i64 ow, .int .i64 kd, .string bd, .int .i64 er, .string rp] 36)) #[.int .i64 0, .int .i64 0, .int .i64 0, .int .i64 0, .int .i64 0, .string ⟨#[]⟩, .int .i64 0, .string ⟨#[]⟩] 32
    rwa [show (w.alloc (.cells #[.int .i64 a, .int .i64 act, .int .i64 cn, .int .i64 ow, .int .i64 kd, .string bd, .int .i64 er, .string rp] 36)).heap.size = w.heap.size + 1 by simp] at this
  have q0 : Hid (Below w.heap.size w ((w.alloc (.cells #[.int .i64 a, .int .i64 act, .int .i64 cn, .int .i64 ow, .int .i64 kd, .string bd, .int .i64 er, .string rp] 36)).alloc (.cells #[.int .i64 0, .int .i64 0, .int .i64 0, .int .i64 0, .int .i64 0, .string ⟨#[]⟩, .int .i64 0, .string ⟨#[]⟩] 32))) := ((Below.refl _ _).alloc (Nat.le_refl _) _).alloc (by simp) _
  go_enter Tryz.func9, Tryz.ntmps9
  go_wp2_with fail
  refine wp_region_held_drew (S := fun x => Below w.heap.size w x ∧ Blk w.heap.size #[.int .i64 a, .int .i64 act, .int .i64 cn, .int .i64 ow, .int .i64 kd, .string bd, .int .i64 er, .string rp] 36 x) (by kernel_rfl) ?_ (fun hHeld => ?_)
  · exact ⟨q0.out.drew, hb0.out.below (Below.refl _ _).drew⟩
  refine wpAnyH_take (i := 0) (v := ?_) rfl (by kernel_rfl) (by kernel_rfl) (by kernel_rfl) (fun _ _ _ h => h) (Or.inl ⟨by rfl, ?_⟩) (by assumption) ?_
  rotate_left 1
  · intro wq hSw
    go_simp
    try with_reducible rfl
  try simp only [Act.put, List.setIfInBounds_toArray, List.set_cons_zero, List.set_cons_succ]
  refine wpAnyH_take (i := 1) (v := ?_) rfl (by kernel_rfl) (by kernel_rfl) (by kernel_rfl) (fun _ _ _ h => h) (Or.inl ⟨by rfl, ?_⟩) (by assumption) ?_
  rotate_left 1
  · intro wq hSw
    have c0 := hSw.2.cell (i := 0) (v := .int .i64 a) rfl
    clear hSw
    go_simp
    try with_reducible rfl
  try simp only [Act.put, List.setIfInBounds_toArray, List.set_cons_zero, List.set_cons_succ]
  refine wpAnyH_take (i := 2) (v := ?_) rfl (by kernel_rfl) (by kernel_rfl) (by kernel_rfl) (fun _ _ _ h => h) (Or.inl ⟨by rfl, ?_⟩) (by assumption) ?_
  rotate_left 1
  · intro wq hSw
    go_simp
    try with_reducible rfl
  try simp only [Act.put, List.setIfInBounds_toArray, List.set_cons_zero, List.set_cons_succ]
  refine wpAnyH_take (i := 3) (v := ?_) rfl (by kernel_rfl) (by kernel_rfl) (by kernel_rfl) (fun _ _ _ h => h) (Or.inl ⟨by rfl, ?_⟩) (by assumption) ?_
  rotate_left 1
  · intro wq hSw
    have c1 := hSw.2.cell (i := 1) (v := .int .i64 act) rfl
    clear hSw
    go_simp
    try with_reducible rfl
  try simp only [Act.put, List.setIfInBounds_toArray, List.set_cons_zero, List.set_cons_succ]
  refine wpAnyH_take (i := 4) (v := ?_) rfl (by kernel_rfl) (by kernel_rfl) (by kernel_rfl) (fun _ _ _ h => h) (Or.inl ⟨by rfl, ?_⟩) (by assumption) ?_
  rotate_left 1
  · intro wq hSw
    go_simp
    try with_reducible rfl
  try simp only [Act.put, List.setIfInBounds_toArray, List.set_cons_zero, List.set_cons_succ]
  refine wpAnyH_take (i := 5) (v := ?_) rfl (by kernel_rfl) (by kernel_rfl) (by kernel_rfl) (fun _ _ _ h => h) (Or.inl ⟨by rfl, ?_⟩) (by assumption) ?_
  rotate_left 1
  · intro wq hSw
    have c2 := hSw.2.cell (i := 2) (v := .int .i64 cn) rfl
    have c3 := hSw.2.cell (i := 3) (v := .int .i64 ow) rfl
    have c4 := hSw.2.cell (i := 4) (v := .int .i64 kd) rfl
    have c5 := hSw.2.cell (i := 5) (v := .string bd) rfl
    have c6 := hSw.2.cell (i := 6) (v := .int .i64 er) rfl
    have c7 := hSw.2.cell (i := 7) (v := .string rp) rfl
    clear hSw
    go_simp
    try with_reducible rfl
  try simp only [Act.put, List.setIfInBounds_toArray, List.set_cons_zero, List.set_cons_succ]
  refine wpAnyH_ready (rs := [6]) (by kernel_rfl) (by simp) ?_
  refine AllReadyH.cons rfl (fun K hK => ?_) AllReadyH.nil
  go_simp
  refine (hn _).mono ?_
  rintro e w1 ⟨rfl, g1⟩
  have hH1 : Below ((w.alloc (.cells #[.int .i64 a, .int .i64 act, .int .i64 cn, .int .i64 ow, .int .i64 kd, .string bd, .int .i64 er, .string rp] 36)).alloc (.cells #[.int .i64 0, .int .i64 0, .int .i64 0, .int .i64 0, .int .i64 0, .string ⟨#[]⟩, .int .i64 0, .string ⟨#[]⟩] 32)).heap.size ((w.alloc (.cells #[.int .i64 a, .int .i64 act, .int .i64 cn, .int .i64 ow, .int .i64 kd, .string bd, .int .i64 er, .string rp] 36)).alloc (.cells #[.int .i64 0, .int .i64 0, .int .i64 0, .int .i64 0, .int .i64 0, .string ⟨#[]⟩, .int .i64 0, .string ⟨#[]⟩] 32)) w1 := (Below.refl _ _).drew.trans g1
  have q1 : Below w.heap.size w w1 := q0.out.trans (hH1.mono q0.out.size)
  refine hK.out _ _ ⟨q1, hb0.out.below hH1⟩ (fun _ => ?_)
  clear hK K g1
  try simp only [Act.put, List.setIfInBounds_toArray, List.set_cons_zero, List.set_cons_succ]
  refine wpAnyH_take (i := 7) (v := ?_) rfl (by kernel_rfl) (by kernel_rfl) (by kernel_rfl) (fun _ _ _ h => h) (Or.inl ⟨by rfl, ?_⟩) (by assumption) ?_
  rotate_left 1
  · intro wq hSw
    go_simp
    try with_reducible rfl
  try simp only [Act.put, List.setIfInBounds_toArray, List.set_cons_zero, List.set_cons_succ]
  have e1 := Lib.hid (hb0.out.below hH1)
  replace q1 := Lib.hid q1
  have b1 : Blk (w.heap.size + 1) #[.int .i64 0, .int .i64 0, .int .i64 0, .int .i64 0, .int .i64 0, .string ⟨#[]⟩, .int .i64 0, .string ⟨#[]⟩] 32 w1 := hb1.out.below hH1
  have c0 : w1.cell? ⟨w.heap.size + 1, 0, none⟩ = some (.int .i64 0) := b1.cell rfl
  have f0 := b1.free 0
  have c1 : w1.cell? ⟨w.heap.size + 1, 1, none⟩ = some (.int .i64 0) := b1.cell rfl
  have f1 := b1.free 1
  have c2 : w1.cell? ⟨w.heap.size + 1, 2, none⟩ = some (.int .i64 0) := b1.cell rfl
  have f2 := b1.free 2
  have c3 : w1.cell? ⟨w.heap.size + 1, 3, none⟩ = some (.int .i64 0) := b1.cell rfl
  have f3 := b1.free 3
  have c4 : w1.cell? ⟨w.heap.size + 1, 4, none⟩ = some (.int .i64 0) := b1.cell rfl
  have f4 := b1.free 4
  have c5 : w1.cell? ⟨w.heap.size + 1, 5, none⟩ = some (.string ⟨#[]⟩) := b1.cell rfl
  have f5 := b1.free 5
  have c6 : w1.cell? ⟨w.heap.size + 1, 6, none⟩ = some (.int .i64 0) := b1.cell rfl
  have f6 := b1.free 6
  have c7 : w1.cell? ⟨w.heap.size + 1, 7, none⟩ = some (.string ⟨#[]⟩) := b1.cell rfl
  have f7 := b1.free 7
  replace b1 := Lib.hid b1
  refine wpAnyH_ready (rs := [8]) (by kernel_rfl) (by simp) ?_
  refine AllReadyH.cons rfl (fun K hK => ?_) AllReadyH.nil
  go_simp
  refine hK.out _ _ ?_ (fun _ => ?_)
  · refine ⟨?_, ?_⟩
    · iterate 8 refine Below.setCell ?_ (by simp) _
      exact q1.out
    · exact e1.out.only (bs := [w.heap.size + 1]) ((((((((Only.set w1 _ _ _).trans (Only.set _ _ _ _)).trans (Only.set _ _ _ _)).trans (Only.set _ _ _ _)).trans (Only.set _ _ _ _)).trans (Only.set _ _ _ _)).trans (Only.set _ _ _ _)).trans (Only.set _ _ _ _)) (by simp)
  clear hK K
  try simp only [Act.put, List.setIfInBounds_toArray, List.set_cons_zero, List.set_cons_succ]
  refine wpAnyH_done (by kernel_rfl) ?_ _
  try simp only [Act.put, List.setIfInBounds_toArray, List.set_cons_zero, List.set_cons_succ, List.getElem_toArray, List.getElem_cons_zero, List.getElem_cons_succ]
  clear c0 c1 c2 c3 c4 c5 c6 c7 f0 f1 f2 f3 f4 f5 f6 f7
  go_wp2
  refine bodyPost_ret (v := .agg #[.int .i64 a, .int .i64 act, .int .i64 cn, .int .i64 ow, .int .i64 kd, .string bd, .int .i64 er, .string rp]) ?_ rfl ⟨rfl, ?_⟩
  · generalize hW : World.setCell _ _ (Value.string rp) = W
    have bF : Blk (w.heap.size + 1) #[.int .i64 a, .int .i64 act, .int .i64 cn, .int .i64 ow, .int .i64 kd, .string bd, .int .i64 er, .string rp] 32 W := by
      rw [← hW]
      exact ((((((((b1.out.set 0 _).set 1 _).set 2 _).set 3 _).set 4 _).set 5 _).set 6 _).set 7 _)
    have d0 : W.cell? ⟨w.heap.size + 1, 0, none⟩ = some (.int .i64 a) := bF.cell rfl
    have d1 : W.cell? ⟨w.heap.size + 1, 1, none⟩ = some (.int .i64 act) := bF.cell rfl
    have d2 : W.cell? ⟨w.heap.size + 1, 2, none⟩ = some (.int .i64 cn) := bF.cell rfl
    have d3 : W.cell? ⟨w.heap.size + 1, 3, none⟩ = some (.int .i64 ow) := bF.cell rfl
    have d4 : W.cell? ⟨w.heap.size + 1, 4, none⟩ = some (.int .i64 kd) := bF.cell rfl
    have d5 : W.cell? ⟨w.heap.size + 1, 5, none⟩ = some (.string bd) := bF.cell rfl
    have d6 : W.cell? ⟨w.heap.size + 1, 6, none⟩ = some (.int .i64 er) := bF.cell rfl
    have d7 : W.cell? ⟨w.heap.size + 1, 7, none⟩ = some (.string rp) := bF.cell rfl
    clear hW bF
    simp [results, Tryz.results9, go_sem, d0, d1, d2, d3, d4, d5, d6, d7]
  · iterate 8 refine Below.setCell ?_ (by simp) _
    exact q1.out
end Go.Proofs.YteejogoiikmlgaaGreatDoor.Serv
