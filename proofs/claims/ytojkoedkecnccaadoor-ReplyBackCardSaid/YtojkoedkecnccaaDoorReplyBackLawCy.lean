/-
  ReplyBack: the statement's walk where what is put is taken.
-/
import Derived.Test.YtojkoedkecnccaaDoorReplyBackLaw
namespace Go.Proofs.YtojkoedkecnccaaDoor.ReplyBackLaw
open Go.RowKit Go.Proofs.YtojkoedkecnccaaDoor.Pad Go.Proofs.YtojkoedkecnccaaDoor.Reply Go.Proofs.YtojkoedkecnccaaDoor.ReplyTakesLaw
set_option linter.unusedVariables false
set_option linter.unusedSimpArgs false

set_option maxRecDepth 100000 in
set_option maxHeartbeats 4000000 in
theorem c1y (id : Nat) (st : Int) (d s a b : ByteArray) (yi yt : Nat) (yd : ByteArray) (w : World) (pa : PutIs id st d s 0) (ts : TakeIs s id st.toNat d 0) (pf : FailIs id st a) (ta : TakeIs a id st.toNat ⟨#[]⟩ 0) (ty : TakeIs b yi yt yd 0) (py : PutIs yi yt yd b 0) (h0 : 0 ≤ st) (h1 : st < 128) (hl : longB d.size = false) :
    Calls Tryd.prog 10 #[.agg #[.int .u64 id, .int .i64 st, .string d], .string b] w fun e w' => e = .returned (.bool true) ∧ Below w.heap.size w w' := by
  obtain ⟨t, rfl⟩ : ∃ t : Nat, st = (t : Int) := ⟨st.toNat, by omega⟩
  rw [show (t : Int).toNat = t by omega] at *
  have k0 : (0 : Int) ≤ (t : Int) := by omega
  have k1 : (t : Int) ≤ 1048576 := by omega
  have hlong := fun x => long_any (d.size : Int) x
  rw [hl] at hlong
  clear hl h0
  have lq : ∀ n : Nat, ((n : Int) == (n : Int)) = true := fun _ => beq_self_eq_true _
  have bx : Hid (Box w.heap.size (.int .u64 id) (.int .i64 (t : Int)) (.string d) w (w.alloc (.cells #[.int .u64 id, .int .i64 (t : Int), .string d] 33))) := Box.start
  go_enter Tryd.func10, Tryd.ntmps10
  go_wp2_with fail
  refine (ours_any id (t : Int) d _).mono ?_
  rintro e w1 ⟨rfl, g1⟩
  replace bx : Hid _ := lib_hid (bx.out.call g1)
  clear g1
  go_wp2_with fail
  refine (pa _).mono ?_
  rintro e w2 ⟨rfl, g2⟩
  replace bx : Hid _ := lib_hid (bx.out.call g2)
  clear g2
  go_wp2_with fail
  refine (ts _).mono ?_
  rintro e w3 ⟨rfl, g3⟩
  replace bx : Hid _ := lib_hid (bx.out.call g3)
  clear g3
  have bz : Hid (Box2 w.heap.size w.heap.size w3.heap.size (.int .u64 id) (.int .i64 (t : Int)) (.string d) w (w3.alloc (.cells #[.int .u64 id, .int .i64 (t : Int), .string d] 35))) := by
    have z3 : w.heap.size < w3.heap.size := bx.out.2.2.2.out.2
    obtain ⟨c0, c1, c2, hB⟩ := bx.out.alloc (.cells #[.int .u64 id, .int .i64 (t : Int), .string d] 35)
    refine Box2.mk c0 c1 c2 ?_ ?_ ?_ ?_
    · simp [go_sem]
    · simp [go_sem]
    · simp [go_sem]
    · exact ⟨hB.out.1, Nat.le_of_lt hB.out.2, hB.out.2, by simp⟩
  clear bx
  have ho := fun x => ours_any id (t : Int) d x
  go_wp2_with fail
  obtain ⟨c0, c1, c2, c3, c4, c5, hB⟩ := bz.out
  clear bz
  refine wp_region_held_drew (S := (fun x => x.cell? ⟨w.heap.size, 0, none⟩ = some (.int .u64 id) ∧ x.cell? ⟨w.heap.size, 1, none⟩ = some (.int .i64 t) ∧ x.cell? ⟨w.heap.size, 2, none⟩ = some (.string d) ∧ x.cell? ⟨w3.heap.size, 0, none⟩ = some (.int .u64 id) ∧ x.cell? ⟨w3.heap.size, 1, none⟩ = some (.int .i64 t) ∧ x.cell? ⟨w3.heap.size, 2, none⟩ = some (.string d) ∧ Hid (Below w.heap.size w x ∧ w.heap.size ≤ x.heap.size ∧ w.heap.size < x.heap.size ∧ w3.heap.size < x.heap.size))) (by kernel_rfl) ?_ (fun hHeld => ?_)
  · (change Box2 _ _ _ _ _ _ _ _; repeat (first | (with_reducible assumption) | (change _ ∧ _; assumption) | (refine Box2.mk ?_ ?_ ?_ ?_ ?_ ?_ ?_ <;> assumption) | (with_reducible refine Box2.alloc ?_ _) | (with_reducible refine Box2.drew ?_) | focus (apply Box2.call; rotate_left 1; with_reducible assumption)))
  refine wpAnyH_take (i := 0) (v := ?_) rfl (by kernel_rfl) (by kernel_rfl) (by kernel_rfl) (fun _ _ _ h => h) (Or.inl ⟨by rfl, ?_⟩) (by assumption) ?_
  rotate_left 1
  · intro wq hSw
    try dsimp only at hSw
    go_simp
    try with_reducible rfl
  try simp only [Act.put, List.setIfInBounds_toArray, List.set_cons_zero, List.set_cons_succ]
  refine wpAnyH_take (i := 1) (v := ?_) rfl (by kernel_rfl) (by kernel_rfl) (by kernel_rfl) (fun _ _ _ h => h) (Or.inl ⟨by rfl, ?_⟩) (by assumption) ?_
  rotate_left 1
  · intro wq hSw
    try dsimp only at hSw
    go_simp
    try with_reducible rfl
  try simp only [Act.put, List.setIfInBounds_toArray, List.set_cons_zero, List.set_cons_succ]
  refine wpAnyH_take (i := 2) (v := ?_) rfl (by kernel_rfl) (by kernel_rfl) (by kernel_rfl) (fun _ _ _ h => h) (Or.inl ⟨by rfl, ?_⟩) (by assumption) ?_
  rotate_left 1
  · intro wq hSw
    try dsimp only at hSw
    go_simp
    try with_reducible rfl
  try simp only [Act.put, List.setIfInBounds_toArray, List.set_cons_zero, List.set_cons_succ]
  refine wpAnyH_take (i := 3) (v := ?_) rfl (by kernel_rfl) (by kernel_rfl) (by kernel_rfl) (fun _ _ _ h => h) (Or.inl ⟨by rfl, ?_⟩) (by assumption) ?_
  rotate_left 1
  · intro wq hSw
    try dsimp only at hSw
    go_simp
    try with_reducible rfl
  try simp only [Act.put, List.setIfInBounds_toArray, List.set_cons_zero, List.set_cons_succ]
  refine wpAnyH_take (i := 4) (v := ?_) rfl (by kernel_rfl) (by kernel_rfl) (by kernel_rfl) (fun _ _ _ h => h) (Or.inl ⟨by rfl, ?_⟩) (by assumption) ?_
  rotate_left 1
  · intro wq hSw
    try dsimp only at hSw
    go_simp
    try with_reducible rfl
  try simp only [Act.put, List.setIfInBounds_toArray, List.set_cons_zero, List.set_cons_succ]
  refine wpAnyH_take (i := 5) (v := ?_) rfl (by kernel_rfl) (by kernel_rfl) (by kernel_rfl) (fun _ _ _ h => h) (Or.inl ⟨by rfl, ?_⟩) (by assumption) ?_
  rotate_left 1
  · intro wq hSw
    try dsimp only at hSw
    go_simp
    try with_reducible rfl
  try simp only [Act.put, List.setIfInBounds_toArray, List.set_cons_zero, List.set_cons_succ]
  refine wpAnyH_take (i := 6) (v := ?_) rfl (by kernel_rfl) (by kernel_rfl) (by kernel_rfl) (fun _ _ _ h => h) (Or.inl ⟨by rfl, ?_⟩) (by assumption) ?_
  rotate_left 1
  · intro wq hSw
    try dsimp only at hSw
    go_simp
    try with_reducible rfl
  try simp only [Act.put, List.setIfInBounds_toArray, List.set_cons_zero, List.set_cons_succ]
  refine wpAnyH_take (i := 7) (v := ?_) rfl (by kernel_rfl) (by kernel_rfl) (by kernel_rfl) (fun _ _ _ h => h) (Or.inl ⟨by rfl, ?_⟩) (by assumption) ?_
  rotate_left 1
  · intro wq hSw
    try dsimp only at hSw
    go_simp
    try with_reducible rfl
  try simp only [Act.put, List.setIfInBounds_toArray, List.set_cons_zero, List.set_cons_succ]
  refine wpAnyH_ready (rs := [8]) (by kernel_rfl) (by simp) ?_
  refine AllReadyH.cons rfl (fun K hK => ?_) AllReadyH.nil
  go_simp
  refine (ho _).mono ?_
  rintro e wz ⟨rfl, gz⟩
  refine hK.out _ _ ?_ (fun hHeld => ?_)
  · (change Box2 _ _ _ _ _ _ _ _; repeat (first | (with_reducible assumption) | (change _ ∧ _; assumption) | (refine Box2.mk ?_ ?_ ?_ ?_ ?_ ?_ ?_ <;> assumption) | (with_reducible refine Box2.alloc ?_ _) | (with_reducible refine Box2.drew ?_) | focus (apply Box2.call; rotate_left 1; with_reducible assumption)))
  clear hK K
  try simp only [Act.put, List.setIfInBounds_toArray, List.set_cons_zero, List.set_cons_succ]
  refine wpAnyH_take (i := 9) (v := ?_) rfl (by kernel_rfl) (by kernel_rfl) (by kernel_rfl) (fun _ _ _ h => h) (Or.inl ⟨by rfl, ?_⟩) (by assumption) ?_
  rotate_left 1
  · intro wq hSw
    try dsimp only at hSw
    go_simp
    try with_reducible rfl
  try simp only [Act.put, List.setIfInBounds_toArray, List.set_cons_zero, List.set_cons_succ]
  refine wpAnyH_take (i := 10) (v := ?_) rfl (by kernel_rfl) (by kernel_rfl) (by kernel_rfl) (fun _ _ _ h => h) (Or.inl ⟨by rfl, ?_⟩) (by assumption) ?_
  rotate_left 1
  · intro wq hSw
    try dsimp only at hSw
    go_simp
    try with_reducible rfl
  try simp only [Act.put, List.setIfInBounds_toArray, List.set_cons_zero, List.set_cons_succ]
  refine wpAnyH_take (i := 11) (v := ?_) rfl (by kernel_rfl) (by kernel_rfl) (by kernel_rfl) (fun _ _ _ h => h) (Or.inl ⟨by rfl, ?_⟩) (by assumption) ?_
  rotate_left 1
  · intro wq hSw
    try dsimp only at hSw
    go_simp
    try with_reducible rfl
  try simp only [Act.put, List.setIfInBounds_toArray, List.set_cons_zero, List.set_cons_succ]
  refine wpAnyH_take (i := 12) (v := ?_) rfl (by kernel_rfl) (by kernel_rfl) (by kernel_rfl) (fun _ _ _ h => h) (Or.inl ⟨by rfl, ?_⟩) (by assumption) ?_
  rotate_left 1
  · intro wq hSw
    try dsimp only at hSw
    go_simp
    try with_reducible rfl
  try simp only [Act.put, List.setIfInBounds_toArray, List.set_cons_zero, List.set_cons_succ]
  refine wpAnyH_take (i := 13) (v := ?_) rfl (by kernel_rfl) (by kernel_rfl) (by kernel_rfl) (fun _ _ _ h => h) (Or.inl ⟨by rfl, ?_⟩) (by assumption) ?_
  rotate_left 1
  · intro wq hSw
    try dsimp only at hSw
    go_simp
    try with_reducible rfl
  try simp only [Act.put, List.setIfInBounds_toArray, List.set_cons_zero, List.set_cons_succ]
  refine wpAnyH_take (i := 14) (v := ?_) rfl (by kernel_rfl) (by kernel_rfl) (by kernel_rfl) (fun _ _ _ h => h) (Or.inl ⟨by rfl, ?_⟩) (by assumption) ?_
  rotate_left 1
  · intro wq hSw
    try dsimp only at hSw
    go_simp
    try with_reducible rfl
  try simp only [Act.put, List.setIfInBounds_toArray, List.set_cons_zero, List.set_cons_succ]
  refine wpAnyH_take (i := 15) (v := ?_) rfl (by kernel_rfl) (by kernel_rfl) (by kernel_rfl) (fun _ _ _ h => h) (Or.inl ⟨by rfl, ?_⟩) (by assumption) ?_
  rotate_left 1
  · intro wq hSw
    try dsimp only at hSw
    go_simp
    try with_reducible rfl
  try simp only [Act.put, List.setIfInBounds_toArray, List.set_cons_zero, List.set_cons_succ]
  refine wpAnyH_ready (rs := [16]) (by kernel_rfl) (by simp) ?_
  refine AllReadyH.cons rfl (fun K hK => ?_) AllReadyH.nil
  go_simp
  refine hK.out _ _ ?_ (fun hHeld => ?_)
  · assumption
  clear hK K
  try simp only [Act.put, List.setIfInBounds_toArray, List.set_cons_zero, List.set_cons_succ]
  refine wpAnyH_ready (rs := [17]) (by kernel_rfl) (by simp) ?_
  refine AllReadyH.cons rfl (fun K hK => ?_) AllReadyH.nil
  go_simp
  refine hK.out _ _ ?_ (fun hHeld => ?_)
  · assumption
  clear hK K
  try simp only [Act.put, List.setIfInBounds_toArray, List.set_cons_zero, List.set_cons_succ]
  refine wpAnyH_take (i := 18) (v := ?_) rfl (by kernel_rfl) (by kernel_rfl) (by kernel_rfl) (fun _ _ _ h => h) (Or.inl ⟨by rfl, ?_⟩) (by assumption) ?_
  rotate_left 1
  · intro wq hSw
    try dsimp only at hSw
    go_simp
    try with_reducible rfl
  try simp only [Act.put, List.setIfInBounds_toArray, List.set_cons_zero, List.set_cons_succ]
  refine wpAnyH_take (i := 19) (v := ?_) rfl (by kernel_rfl) (by kernel_rfl) (by kernel_rfl) (fun _ _ _ h => h) (Or.inl ⟨by rfl, ?_⟩) (by assumption) ?_
  rotate_left 1
  · intro wq hSw
    try dsimp only at hSw
    go_simp
    try with_reducible rfl
  try simp only [Act.put, List.setIfInBounds_toArray, List.set_cons_zero, List.set_cons_succ]
  refine wpAnyH_done (by kernel_rfl) ?_ _
  clear c0 c1 c2 c3 c4 c5 hB gz
  obtain ⟨c0, c1, c2, _, _, _, hB⟩ := hHeld
  have bx : Hid (Box w.heap.size (.int .u64 id) (.int .i64 t) (.string d) w wz) := Box.mk c0 c1 c2 ⟨hB.out.1, hB.out.2.2.1⟩
  go_wp2_with (go_at_call 29; refine (hlong _).mono ?_; rintro e w' ⟨rfl, rfl⟩)
  refine (ty _).mono ?_
  rintro e w4 ⟨rfl, g4⟩
  replace bx : Hid _ := lib_hid (bx.out.call g4)
  clear g4 c0 c1 c2 hB
  go_wp2_with fail
  refine (py _).mono ?_
  rintro e w5 ⟨rfl, g5⟩
  replace bx : Hid _ := lib_hid ((bx.out.alloc _).call g5)
  obtain ⟨c0, c1, c2, hB⟩ := bx.out
  clear g5
  go_wp2_with fail
  refine (pf _).mono ?_
  rintro e w6 ⟨rfl, g6⟩
  replace bx : Hid _ := lib_hid (bx.out.call g6)
  clear g6 c0 c1 c2 hB
  go_wp2_with fail
  refine (ta _).mono ?_
  rintro e w7 ⟨rfl, g7⟩
  replace bx : Hid _ := lib_hid (bx.out.call g7)
  obtain ⟨c0, c1, c2, hB⟩ := bx.out.alloc (.cells #[.int .u64 id, .int .i64 (t : Int), .string ⟨#[]⟩] 35)
  clear g7
  go_wp2_with fail
  refine (awake_any _).mono ?_
  rintro e w8 ⟨rfl, g8⟩
  replace bx : Hid _ := lib_hid ((bx.out.alloc _).call g8)
  clear g8 c0 c1 c2 hB
  go_wp2
  go_ret
  exact ⟨rfl, bx.out.below⟩

set_option maxRecDepth 100000 in
set_option maxHeartbeats 4000000 in
theorem c2y (id : Nat) (st : Int) (d s a b : ByteArray) (yi yt : Nat) (yd : ByteArray) (w : World) (pa : PutIs id st d s 0) (ts : TakeIs s id st.toNat d 0) (pf : FailIs id st a) (ta : TakeIs a id st.toNat ⟨#[]⟩ 0) (ty : TakeIs b yi yt yd 0) (py : PutIs yi yt yd b 0) (h0 : 0 ≤ st) (h1 : st < 128) (hl : longB d.size = true) :
    Calls Tryd.prog 10 #[.agg #[.int .u64 id, .int .i64 st, .string d], .string b] w fun e w' => e = .returned (.bool true) ∧ Below w.heap.size w w' := by
  obtain ⟨t, rfl⟩ : ∃ t : Nat, st = (t : Int) := ⟨st.toNat, by omega⟩
  rw [show (t : Int).toNat = t by omega] at *
  have k0 : (0 : Int) ≤ (t : Int) := by omega
  have k1 : (t : Int) ≤ 1048576 := by omega
  have hlong := fun x => long_any (d.size : Int) x
  rw [hl] at hlong
  clear hl h0
  have lq : ∀ n : Nat, ((n : Int) == (n : Int)) = true := fun _ => beq_self_eq_true _
  have bx : Hid (Box w.heap.size (.int .u64 id) (.int .i64 (t : Int)) (.string d) w (w.alloc (.cells #[.int .u64 id, .int .i64 (t : Int), .string d] 33))) := Box.start
  go_enter Tryd.func10, Tryd.ntmps10
  go_wp2_with fail
  refine (ours_any id (t : Int) d _).mono ?_
  rintro e w1 ⟨rfl, g1⟩
  replace bx : Hid _ := lib_hid (bx.out.call g1)
  clear g1
  go_wp2_with fail
  refine (pa _).mono ?_
  rintro e w2 ⟨rfl, g2⟩
  replace bx : Hid _ := lib_hid (bx.out.call g2)
  clear g2
  go_wp2_with fail
  refine (ts _).mono ?_
  rintro e w3 ⟨rfl, g3⟩
  replace bx : Hid _ := lib_hid (bx.out.call g3)
  clear g3
  have bz : Hid (Box2 w.heap.size w.heap.size w3.heap.size (.int .u64 id) (.int .i64 (t : Int)) (.string d) w (w3.alloc (.cells #[.int .u64 id, .int .i64 (t : Int), .string d] 35))) := by
    have z3 : w.heap.size < w3.heap.size := bx.out.2.2.2.out.2
    obtain ⟨c0, c1, c2, hB⟩ := bx.out.alloc (.cells #[.int .u64 id, .int .i64 (t : Int), .string d] 35)
    refine Box2.mk c0 c1 c2 ?_ ?_ ?_ ?_
    · simp [go_sem]
    · simp [go_sem]
    · simp [go_sem]
    · exact ⟨hB.out.1, Nat.le_of_lt hB.out.2, hB.out.2, by simp⟩
  clear bx
  have ho := fun x => ours_any id (t : Int) d x
  go_wp2_with fail
  obtain ⟨c0, c1, c2, c3, c4, c5, hB⟩ := bz.out
  clear bz
  refine wp_region_held_drew (S := (fun x => x.cell? ⟨w.heap.size, 0, none⟩ = some (.int .u64 id) ∧ x.cell? ⟨w.heap.size, 1, none⟩ = some (.int .i64 t) ∧ x.cell? ⟨w.heap.size, 2, none⟩ = some (.string d) ∧ x.cell? ⟨w3.heap.size, 0, none⟩ = some (.int .u64 id) ∧ x.cell? ⟨w3.heap.size, 1, none⟩ = some (.int .i64 t) ∧ x.cell? ⟨w3.heap.size, 2, none⟩ = some (.string d) ∧ Hid (Below w.heap.size w x ∧ w.heap.size ≤ x.heap.size ∧ w.heap.size < x.heap.size ∧ w3.heap.size < x.heap.size))) (by kernel_rfl) ?_ (fun hHeld => ?_)
  · (change Box2 _ _ _ _ _ _ _ _; repeat (first | (with_reducible assumption) | (change _ ∧ _; assumption) | (refine Box2.mk ?_ ?_ ?_ ?_ ?_ ?_ ?_ <;> assumption) | (with_reducible refine Box2.alloc ?_ _) | (with_reducible refine Box2.drew ?_) | focus (apply Box2.call; rotate_left 1; with_reducible assumption)))
  refine wpAnyH_take (i := 0) (v := ?_) rfl (by kernel_rfl) (by kernel_rfl) (by kernel_rfl) (fun _ _ _ h => h) (Or.inl ⟨by rfl, ?_⟩) (by assumption) ?_
  rotate_left 1
  · intro wq hSw
    try dsimp only at hSw
    go_simp
    try with_reducible rfl
  try simp only [Act.put, List.setIfInBounds_toArray, List.set_cons_zero, List.set_cons_succ]
  refine wpAnyH_take (i := 1) (v := ?_) rfl (by kernel_rfl) (by kernel_rfl) (by kernel_rfl) (fun _ _ _ h => h) (Or.inl ⟨by rfl, ?_⟩) (by assumption) ?_
  rotate_left 1
  · intro wq hSw
    try dsimp only at hSw
    go_simp
    try with_reducible rfl
  try simp only [Act.put, List.setIfInBounds_toArray, List.set_cons_zero, List.set_cons_succ]
  refine wpAnyH_take (i := 2) (v := ?_) rfl (by kernel_rfl) (by kernel_rfl) (by kernel_rfl) (fun _ _ _ h => h) (Or.inl ⟨by rfl, ?_⟩) (by assumption) ?_
  rotate_left 1
  · intro wq hSw
    try dsimp only at hSw
    go_simp
    try with_reducible rfl
  try simp only [Act.put, List.setIfInBounds_toArray, List.set_cons_zero, List.set_cons_succ]
  refine wpAnyH_take (i := 3) (v := ?_) rfl (by kernel_rfl) (by kernel_rfl) (by kernel_rfl) (fun _ _ _ h => h) (Or.inl ⟨by rfl, ?_⟩) (by assumption) ?_
  rotate_left 1
  · intro wq hSw
    try dsimp only at hSw
    go_simp
    try with_reducible rfl
  try simp only [Act.put, List.setIfInBounds_toArray, List.set_cons_zero, List.set_cons_succ]
  refine wpAnyH_take (i := 4) (v := ?_) rfl (by kernel_rfl) (by kernel_rfl) (by kernel_rfl) (fun _ _ _ h => h) (Or.inl ⟨by rfl, ?_⟩) (by assumption) ?_
  rotate_left 1
  · intro wq hSw
    try dsimp only at hSw
    go_simp
    try with_reducible rfl
  try simp only [Act.put, List.setIfInBounds_toArray, List.set_cons_zero, List.set_cons_succ]
  refine wpAnyH_take (i := 5) (v := ?_) rfl (by kernel_rfl) (by kernel_rfl) (by kernel_rfl) (fun _ _ _ h => h) (Or.inl ⟨by rfl, ?_⟩) (by assumption) ?_
  rotate_left 1
  · intro wq hSw
    try dsimp only at hSw
    go_simp
    try with_reducible rfl
  try simp only [Act.put, List.setIfInBounds_toArray, List.set_cons_zero, List.set_cons_succ]
  refine wpAnyH_take (i := 6) (v := ?_) rfl (by kernel_rfl) (by kernel_rfl) (by kernel_rfl) (fun _ _ _ h => h) (Or.inl ⟨by rfl, ?_⟩) (by assumption) ?_
  rotate_left 1
  · intro wq hSw
    try dsimp only at hSw
    go_simp
    try with_reducible rfl
  try simp only [Act.put, List.setIfInBounds_toArray, List.set_cons_zero, List.set_cons_succ]
  refine wpAnyH_take (i := 7) (v := ?_) rfl (by kernel_rfl) (by kernel_rfl) (by kernel_rfl) (fun _ _ _ h => h) (Or.inl ⟨by rfl, ?_⟩) (by assumption) ?_
  rotate_left 1
  · intro wq hSw
    try dsimp only at hSw
    go_simp
    try with_reducible rfl
  try simp only [Act.put, List.setIfInBounds_toArray, List.set_cons_zero, List.set_cons_succ]
  refine wpAnyH_ready (rs := [8]) (by kernel_rfl) (by simp) ?_
  refine AllReadyH.cons rfl (fun K hK => ?_) AllReadyH.nil
  go_simp
  refine (ho _).mono ?_
  rintro e wz ⟨rfl, gz⟩
  refine hK.out _ _ ?_ (fun hHeld => ?_)
  · (change Box2 _ _ _ _ _ _ _ _; repeat (first | (with_reducible assumption) | (change _ ∧ _; assumption) | (refine Box2.mk ?_ ?_ ?_ ?_ ?_ ?_ ?_ <;> assumption) | (with_reducible refine Box2.alloc ?_ _) | (with_reducible refine Box2.drew ?_) | focus (apply Box2.call; rotate_left 1; with_reducible assumption)))
  clear hK K
  try simp only [Act.put, List.setIfInBounds_toArray, List.set_cons_zero, List.set_cons_succ]
  refine wpAnyH_take (i := 9) (v := ?_) rfl (by kernel_rfl) (by kernel_rfl) (by kernel_rfl) (fun _ _ _ h => h) (Or.inl ⟨by rfl, ?_⟩) (by assumption) ?_
  rotate_left 1
  · intro wq hSw
    try dsimp only at hSw
    go_simp
    try with_reducible rfl
  try simp only [Act.put, List.setIfInBounds_toArray, List.set_cons_zero, List.set_cons_succ]
  refine wpAnyH_take (i := 10) (v := ?_) rfl (by kernel_rfl) (by kernel_rfl) (by kernel_rfl) (fun _ _ _ h => h) (Or.inl ⟨by rfl, ?_⟩) (by assumption) ?_
  rotate_left 1
  · intro wq hSw
    try dsimp only at hSw
    go_simp
    try with_reducible rfl
  try simp only [Act.put, List.setIfInBounds_toArray, List.set_cons_zero, List.set_cons_succ]
  refine wpAnyH_take (i := 11) (v := ?_) rfl (by kernel_rfl) (by kernel_rfl) (by kernel_rfl) (fun _ _ _ h => h) (Or.inl ⟨by rfl, ?_⟩) (by assumption) ?_
  rotate_left 1
  · intro wq hSw
    try dsimp only at hSw
    go_simp
    try with_reducible rfl
  try simp only [Act.put, List.setIfInBounds_toArray, List.set_cons_zero, List.set_cons_succ]
  refine wpAnyH_take (i := 12) (v := ?_) rfl (by kernel_rfl) (by kernel_rfl) (by kernel_rfl) (fun _ _ _ h => h) (Or.inl ⟨by rfl, ?_⟩) (by assumption) ?_
  rotate_left 1
  · intro wq hSw
    try dsimp only at hSw
    go_simp
    try with_reducible rfl
  try simp only [Act.put, List.setIfInBounds_toArray, List.set_cons_zero, List.set_cons_succ]
  refine wpAnyH_take (i := 13) (v := ?_) rfl (by kernel_rfl) (by kernel_rfl) (by kernel_rfl) (fun _ _ _ h => h) (Or.inl ⟨by rfl, ?_⟩) (by assumption) ?_
  rotate_left 1
  · intro wq hSw
    try dsimp only at hSw
    go_simp
    try with_reducible rfl
  try simp only [Act.put, List.setIfInBounds_toArray, List.set_cons_zero, List.set_cons_succ]
  refine wpAnyH_take (i := 14) (v := ?_) rfl (by kernel_rfl) (by kernel_rfl) (by kernel_rfl) (fun _ _ _ h => h) (Or.inl ⟨by rfl, ?_⟩) (by assumption) ?_
  rotate_left 1
  · intro wq hSw
    try dsimp only at hSw
    go_simp
    try with_reducible rfl
  try simp only [Act.put, List.setIfInBounds_toArray, List.set_cons_zero, List.set_cons_succ]
  refine wpAnyH_take (i := 15) (v := ?_) rfl (by kernel_rfl) (by kernel_rfl) (by kernel_rfl) (fun _ _ _ h => h) (Or.inl ⟨by rfl, ?_⟩) (by assumption) ?_
  rotate_left 1
  · intro wq hSw
    try dsimp only at hSw
    go_simp
    try with_reducible rfl
  try simp only [Act.put, List.setIfInBounds_toArray, List.set_cons_zero, List.set_cons_succ]
  refine wpAnyH_ready (rs := [16]) (by kernel_rfl) (by simp) ?_
  refine AllReadyH.cons rfl (fun K hK => ?_) AllReadyH.nil
  go_simp
  refine hK.out _ _ ?_ (fun hHeld => ?_)
  · assumption
  clear hK K
  try simp only [Act.put, List.setIfInBounds_toArray, List.set_cons_zero, List.set_cons_succ]
  refine wpAnyH_ready (rs := [17]) (by kernel_rfl) (by simp) ?_
  refine AllReadyH.cons rfl (fun K hK => ?_) AllReadyH.nil
  go_simp
  refine hK.out _ _ ?_ (fun hHeld => ?_)
  · assumption
  clear hK K
  try simp only [Act.put, List.setIfInBounds_toArray, List.set_cons_zero, List.set_cons_succ]
  refine wpAnyH_take (i := 18) (v := ?_) rfl (by kernel_rfl) (by kernel_rfl) (by kernel_rfl) (fun _ _ _ h => h) (Or.inl ⟨by rfl, ?_⟩) (by assumption) ?_
  rotate_left 1
  · intro wq hSw
    try dsimp only at hSw
    go_simp
    try with_reducible rfl
  try simp only [Act.put, List.setIfInBounds_toArray, List.set_cons_zero, List.set_cons_succ]
  refine wpAnyH_take (i := 19) (v := ?_) rfl (by kernel_rfl) (by kernel_rfl) (by kernel_rfl) (fun _ _ _ h => h) (Or.inl ⟨by rfl, ?_⟩) (by assumption) ?_
  rotate_left 1
  · intro wq hSw
    try dsimp only at hSw
    go_simp
    try with_reducible rfl
  try simp only [Act.put, List.setIfInBounds_toArray, List.set_cons_zero, List.set_cons_succ]
  refine wpAnyH_done (by kernel_rfl) ?_ _
  clear c0 c1 c2 c3 c4 c5 hB gz
  obtain ⟨c0, c1, c2, _, _, _, hB⟩ := hHeld
  have bx : Hid (Box w.heap.size (.int .u64 id) (.int .i64 t) (.string d) w wz) := Box.mk c0 c1 c2 ⟨hB.out.1, hB.out.2.2.1⟩
  go_wp2_with (go_at_call 29; refine (hlong _).mono ?_; rintro e w' ⟨rfl, rfl⟩)
  refine (ty _).mono ?_
  rintro e w4 ⟨rfl, g4⟩
  replace bx : Hid _ := lib_hid (bx.out.call g4)
  clear g4 c0 c1 c2 hB
  go_wp2_with fail
  refine (py _).mono ?_
  rintro e w5 ⟨rfl, g5⟩
  replace bx : Hid _ := lib_hid ((bx.out.alloc _).call g5)
  obtain ⟨c0, c1, c2, hB⟩ := bx.out
  clear g5
  go_wp2_with fail
  refine (pf _).mono ?_
  rintro e w6 ⟨rfl, g6⟩
  replace bx : Hid _ := lib_hid (bx.out.call g6)
  clear g6 c0 c1 c2 hB
  go_wp2_with fail
  refine (ta _).mono ?_
  rintro e w7 ⟨rfl, g7⟩
  replace bx : Hid _ := lib_hid (bx.out.call g7)
  obtain ⟨c0, c1, c2, hB⟩ := bx.out.alloc (.cells #[.int .u64 id, .int .i64 (t : Int), .string ⟨#[]⟩] 35)
  clear g7
  go_wp2_with fail
  refine (awake_any _).mono ?_
  rintro e w8 ⟨rfl, g8⟩
  replace bx : Hid _ := lib_hid ((bx.out.alloc _).call g8)
  clear g8 c0 c1 c2 hB
  go_wp2
  go_ret
  exact ⟨rfl, bx.out.below⟩

set_option maxRecDepth 100000 in
set_option maxHeartbeats 4000000 in
theorem c3y (id : Nat) (st : Int) (d s a b : ByteArray) (yi yt : Nat) (yd : ByteArray) (w : World) (pa : PutIs id st d s 0) (ts : TakeIs s id st.toNat d 0) (pf : FailIs id st a) (ta : TakeIs a id st.toNat ⟨#[]⟩ 0) (ty : TakeIs b yi yt yd 0) (py : PutIs yi yt yd b 0) (h0 : 128 ≤ st) (h1 : st ≤ 1048576) :
    Calls Tryd.prog 10 #[.agg #[.int .u64 id, .int .i64 st, .string d], .string b] w fun e w' => e = .returned (.bool true) ∧ Below w.heap.size w w' := by
  obtain ⟨t, rfl⟩ : ∃ t : Nat, st = (t : Int) := ⟨st.toNat, by omega⟩
  rw [show (t : Int).toNat = t by omega] at *
  have k0 : (0 : Int) ≤ (t : Int) := by omega
  have k1 : (t : Int) ≤ 1048576 := by omega
  have k2 : ¬ (t : Int) < 128 := by omega
  clear h0 h1
  have lq : ∀ n : Nat, ((n : Int) == (n : Int)) = true := fun _ => beq_self_eq_true _
  have bx : Hid (Box w.heap.size (.int .u64 id) (.int .i64 (t : Int)) (.string d) w (w.alloc (.cells #[.int .u64 id, .int .i64 (t : Int), .string d] 33))) := Box.start
  go_enter Tryd.func10, Tryd.ntmps10
  go_wp2_with fail
  refine (ours_any id (t : Int) d _).mono ?_
  rintro e w1 ⟨rfl, g1⟩
  replace bx : Hid _ := lib_hid (bx.out.call g1)
  clear g1
  go_wp2_with fail
  refine (pa _).mono ?_
  rintro e w2 ⟨rfl, g2⟩
  replace bx : Hid _ := lib_hid (bx.out.call g2)
  clear g2
  go_wp2_with fail
  refine (ts _).mono ?_
  rintro e w3 ⟨rfl, g3⟩
  replace bx : Hid _ := lib_hid (bx.out.call g3)
  clear g3
  have bz : Hid (Box2 w.heap.size w.heap.size w3.heap.size (.int .u64 id) (.int .i64 (t : Int)) (.string d) w (w3.alloc (.cells #[.int .u64 id, .int .i64 (t : Int), .string d] 35))) := by
    have z3 : w.heap.size < w3.heap.size := bx.out.2.2.2.out.2
    obtain ⟨c0, c1, c2, hB⟩ := bx.out.alloc (.cells #[.int .u64 id, .int .i64 (t : Int), .string d] 35)
    refine Box2.mk c0 c1 c2 ?_ ?_ ?_ ?_
    · simp [go_sem]
    · simp [go_sem]
    · simp [go_sem]
    · exact ⟨hB.out.1, Nat.le_of_lt hB.out.2, hB.out.2, by simp⟩
  clear bx
  have ho := fun x => ours_any id (t : Int) d x
  go_wp2_with fail
  obtain ⟨c0, c1, c2, c3, c4, c5, hB⟩ := bz.out
  clear bz
  refine wp_region_held_drew (S := (fun x => x.cell? ⟨w.heap.size, 0, none⟩ = some (.int .u64 id) ∧ x.cell? ⟨w.heap.size, 1, none⟩ = some (.int .i64 t) ∧ x.cell? ⟨w.heap.size, 2, none⟩ = some (.string d) ∧ x.cell? ⟨w3.heap.size, 0, none⟩ = some (.int .u64 id) ∧ x.cell? ⟨w3.heap.size, 1, none⟩ = some (.int .i64 t) ∧ x.cell? ⟨w3.heap.size, 2, none⟩ = some (.string d) ∧ Hid (Below w.heap.size w x ∧ w.heap.size ≤ x.heap.size ∧ w.heap.size < x.heap.size ∧ w3.heap.size < x.heap.size))) (by kernel_rfl) ?_ (fun hHeld => ?_)
  · (change Box2 _ _ _ _ _ _ _ _; repeat (first | (with_reducible assumption) | (change _ ∧ _; assumption) | (refine Box2.mk ?_ ?_ ?_ ?_ ?_ ?_ ?_ <;> assumption) | (with_reducible refine Box2.alloc ?_ _) | (with_reducible refine Box2.drew ?_) | focus (apply Box2.call; rotate_left 1; with_reducible assumption)))
  refine wpAnyH_take (i := 0) (v := ?_) rfl (by kernel_rfl) (by kernel_rfl) (by kernel_rfl) (fun _ _ _ h => h) (Or.inl ⟨by rfl, ?_⟩) (by assumption) ?_
  rotate_left 1
  · intro wq hSw
    try dsimp only at hSw
    go_simp
    try with_reducible rfl
  try simp only [Act.put, List.setIfInBounds_toArray, List.set_cons_zero, List.set_cons_succ]
  refine wpAnyH_take (i := 1) (v := ?_) rfl (by kernel_rfl) (by kernel_rfl) (by kernel_rfl) (fun _ _ _ h => h) (Or.inl ⟨by rfl, ?_⟩) (by assumption) ?_
  rotate_left 1
  · intro wq hSw
    try dsimp only at hSw
    go_simp
    try with_reducible rfl
  try simp only [Act.put, List.setIfInBounds_toArray, List.set_cons_zero, List.set_cons_succ]
  refine wpAnyH_take (i := 2) (v := ?_) rfl (by kernel_rfl) (by kernel_rfl) (by kernel_rfl) (fun _ _ _ h => h) (Or.inl ⟨by rfl, ?_⟩) (by assumption) ?_
  rotate_left 1
  · intro wq hSw
    try dsimp only at hSw
    go_simp
    try with_reducible rfl
  try simp only [Act.put, List.setIfInBounds_toArray, List.set_cons_zero, List.set_cons_succ]
  refine wpAnyH_take (i := 3) (v := ?_) rfl (by kernel_rfl) (by kernel_rfl) (by kernel_rfl) (fun _ _ _ h => h) (Or.inl ⟨by rfl, ?_⟩) (by assumption) ?_
  rotate_left 1
  · intro wq hSw
    try dsimp only at hSw
    go_simp
    try with_reducible rfl
  try simp only [Act.put, List.setIfInBounds_toArray, List.set_cons_zero, List.set_cons_succ]
  refine wpAnyH_take (i := 4) (v := ?_) rfl (by kernel_rfl) (by kernel_rfl) (by kernel_rfl) (fun _ _ _ h => h) (Or.inl ⟨by rfl, ?_⟩) (by assumption) ?_
  rotate_left 1
  · intro wq hSw
    try dsimp only at hSw
    go_simp
    try with_reducible rfl
  try simp only [Act.put, List.setIfInBounds_toArray, List.set_cons_zero, List.set_cons_succ]
  refine wpAnyH_take (i := 5) (v := ?_) rfl (by kernel_rfl) (by kernel_rfl) (by kernel_rfl) (fun _ _ _ h => h) (Or.inl ⟨by rfl, ?_⟩) (by assumption) ?_
  rotate_left 1
  · intro wq hSw
    try dsimp only at hSw
    go_simp
    try with_reducible rfl
  try simp only [Act.put, List.setIfInBounds_toArray, List.set_cons_zero, List.set_cons_succ]
  refine wpAnyH_take (i := 6) (v := ?_) rfl (by kernel_rfl) (by kernel_rfl) (by kernel_rfl) (fun _ _ _ h => h) (Or.inl ⟨by rfl, ?_⟩) (by assumption) ?_
  rotate_left 1
  · intro wq hSw
    try dsimp only at hSw
    go_simp
    try with_reducible rfl
  try simp only [Act.put, List.setIfInBounds_toArray, List.set_cons_zero, List.set_cons_succ]
  refine wpAnyH_take (i := 7) (v := ?_) rfl (by kernel_rfl) (by kernel_rfl) (by kernel_rfl) (fun _ _ _ h => h) (Or.inl ⟨by rfl, ?_⟩) (by assumption) ?_
  rotate_left 1
  · intro wq hSw
    try dsimp only at hSw
    go_simp
    try with_reducible rfl
  try simp only [Act.put, List.setIfInBounds_toArray, List.set_cons_zero, List.set_cons_succ]
  refine wpAnyH_ready (rs := [8]) (by kernel_rfl) (by simp) ?_
  refine AllReadyH.cons rfl (fun K hK => ?_) AllReadyH.nil
  go_simp
  refine (ho _).mono ?_
  rintro e wz ⟨rfl, gz⟩
  refine hK.out _ _ ?_ (fun hHeld => ?_)
  · (change Box2 _ _ _ _ _ _ _ _; repeat (first | (with_reducible assumption) | (change _ ∧ _; assumption) | (refine Box2.mk ?_ ?_ ?_ ?_ ?_ ?_ ?_ <;> assumption) | (with_reducible refine Box2.alloc ?_ _) | (with_reducible refine Box2.drew ?_) | focus (apply Box2.call; rotate_left 1; with_reducible assumption)))
  clear hK K
  try simp only [Act.put, List.setIfInBounds_toArray, List.set_cons_zero, List.set_cons_succ]
  refine wpAnyH_take (i := 9) (v := ?_) rfl (by kernel_rfl) (by kernel_rfl) (by kernel_rfl) (fun _ _ _ h => h) (Or.inl ⟨by rfl, ?_⟩) (by assumption) ?_
  rotate_left 1
  · intro wq hSw
    try dsimp only at hSw
    go_simp
    try with_reducible rfl
  try simp only [Act.put, List.setIfInBounds_toArray, List.set_cons_zero, List.set_cons_succ]
  refine wpAnyH_take (i := 10) (v := ?_) rfl (by kernel_rfl) (by kernel_rfl) (by kernel_rfl) (fun _ _ _ h => h) (Or.inl ⟨by rfl, ?_⟩) (by assumption) ?_
  rotate_left 1
  · intro wq hSw
    try dsimp only at hSw
    go_simp
    try with_reducible rfl
  try simp only [Act.put, List.setIfInBounds_toArray, List.set_cons_zero, List.set_cons_succ]
  refine wpAnyH_take (i := 11) (v := ?_) rfl (by kernel_rfl) (by kernel_rfl) (by kernel_rfl) (fun _ _ _ h => h) (Or.inl ⟨by rfl, ?_⟩) (by assumption) ?_
  rotate_left 1
  · intro wq hSw
    try dsimp only at hSw
    go_simp
    try with_reducible rfl
  try simp only [Act.put, List.setIfInBounds_toArray, List.set_cons_zero, List.set_cons_succ]
  refine wpAnyH_take (i := 12) (v := ?_) rfl (by kernel_rfl) (by kernel_rfl) (by kernel_rfl) (fun _ _ _ h => h) (Or.inl ⟨by rfl, ?_⟩) (by assumption) ?_
  rotate_left 1
  · intro wq hSw
    try dsimp only at hSw
    go_simp
    try with_reducible rfl
  try simp only [Act.put, List.setIfInBounds_toArray, List.set_cons_zero, List.set_cons_succ]
  refine wpAnyH_take (i := 13) (v := ?_) rfl (by kernel_rfl) (by kernel_rfl) (by kernel_rfl) (fun _ _ _ h => h) (Or.inl ⟨by rfl, ?_⟩) (by assumption) ?_
  rotate_left 1
  · intro wq hSw
    try dsimp only at hSw
    go_simp
    try with_reducible rfl
  try simp only [Act.put, List.setIfInBounds_toArray, List.set_cons_zero, List.set_cons_succ]
  refine wpAnyH_take (i := 14) (v := ?_) rfl (by kernel_rfl) (by kernel_rfl) (by kernel_rfl) (fun _ _ _ h => h) (Or.inl ⟨by rfl, ?_⟩) (by assumption) ?_
  rotate_left 1
  · intro wq hSw
    try dsimp only at hSw
    go_simp
    try with_reducible rfl
  try simp only [Act.put, List.setIfInBounds_toArray, List.set_cons_zero, List.set_cons_succ]
  refine wpAnyH_take (i := 15) (v := ?_) rfl (by kernel_rfl) (by kernel_rfl) (by kernel_rfl) (fun _ _ _ h => h) (Or.inl ⟨by rfl, ?_⟩) (by assumption) ?_
  rotate_left 1
  · intro wq hSw
    try dsimp only at hSw
    go_simp
    try with_reducible rfl
  try simp only [Act.put, List.setIfInBounds_toArray, List.set_cons_zero, List.set_cons_succ]
  refine wpAnyH_ready (rs := [16]) (by kernel_rfl) (by simp) ?_
  refine AllReadyH.cons rfl (fun K hK => ?_) AllReadyH.nil
  go_simp
  refine hK.out _ _ ?_ (fun hHeld => ?_)
  · assumption
  clear hK K
  try simp only [Act.put, List.setIfInBounds_toArray, List.set_cons_zero, List.set_cons_succ]
  refine wpAnyH_ready (rs := [17]) (by kernel_rfl) (by simp) ?_
  refine AllReadyH.cons rfl (fun K hK => ?_) AllReadyH.nil
  go_simp
  refine hK.out _ _ ?_ (fun hHeld => ?_)
  · assumption
  clear hK K
  try simp only [Act.put, List.setIfInBounds_toArray, List.set_cons_zero, List.set_cons_succ]
  refine wpAnyH_take (i := 18) (v := ?_) rfl (by kernel_rfl) (by kernel_rfl) (by kernel_rfl) (fun _ _ _ h => h) (Or.inl ⟨by rfl, ?_⟩) (by assumption) ?_
  rotate_left 1
  · intro wq hSw
    try dsimp only at hSw
    go_simp
    try with_reducible rfl
  try simp only [Act.put, List.setIfInBounds_toArray, List.set_cons_zero, List.set_cons_succ]
  refine wpAnyH_take (i := 19) (v := ?_) rfl (by kernel_rfl) (by kernel_rfl) (by kernel_rfl) (fun _ _ _ h => h) (Or.inl ⟨by rfl, ?_⟩) (by assumption) ?_
  rotate_left 1
  · intro wq hSw
    try dsimp only at hSw
    go_simp
    try with_reducible rfl
  try simp only [Act.put, List.setIfInBounds_toArray, List.set_cons_zero, List.set_cons_succ]
  refine wpAnyH_done (by kernel_rfl) ?_ _
  clear c0 c1 c2 c3 c4 c5 hB gz
  obtain ⟨c0, c1, c2, _, _, _, hB⟩ := hHeld
  have bx : Hid (Box w.heap.size (.int .u64 id) (.int .i64 t) (.string d) w wz) := Box.mk c0 c1 c2 ⟨hB.out.1, hB.out.2.2.1⟩
  go_wp2_with fail
  refine (ty _).mono ?_
  rintro e w4 ⟨rfl, g4⟩
  replace bx : Hid _ := lib_hid (bx.out.call g4)
  clear g4 c0 c1 c2 hB
  go_wp2_with fail
  refine (py _).mono ?_
  rintro e w5 ⟨rfl, g5⟩
  replace bx : Hid _ := lib_hid ((bx.out.alloc _).call g5)
  obtain ⟨c0, c1, c2, hB⟩ := bx.out
  clear g5
  go_wp2_with fail
  refine (pf _).mono ?_
  rintro e w6 ⟨rfl, g6⟩
  replace bx : Hid _ := lib_hid (bx.out.call g6)
  clear g6 c0 c1 c2 hB
  go_wp2_with fail
  refine (ta _).mono ?_
  rintro e w7 ⟨rfl, g7⟩
  replace bx : Hid _ := lib_hid (bx.out.call g7)
  obtain ⟨c0, c1, c2, hB⟩ := bx.out.alloc (.cells #[.int .u64 id, .int .i64 (t : Int), .string ⟨#[]⟩] 35)
  clear g7
  go_wp2_with fail
  refine (awake_any _).mono ?_
  rintro e w8 ⟨rfl, g8⟩
  replace bx : Hid _ := lib_hid ((bx.out.alloc _).call g8)
  clear g8 c0 c1 c2 hB
  go_wp2
  go_ret
  exact ⟨rfl, bx.out.below⟩
end Go.Proofs.YtojkoedkecnccaaDoor.ReplyBackLaw
