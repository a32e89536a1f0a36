/-
  gate.New of the admin's configuration: the walk: a region that draws its order: its calls go in order; what each has made is loaded before the next.
-/
import Derived.Test.YteejogoiikmlgaaGreatDoorTGate
import Derived.Deep.RegionHeld3
namespace Go.Proofs.YteejogoiikmlgaaGreatDoor.Serv
open Go.RowKit
set_option linter.unusedVariables false
set_option linter.unusedSimpArgs false
set_option linter.unnecessarySimpa false

/-- a region's walk under a stronger condition -/
theorem held_by {P : Program} {md : Region.Mode} {ops : Array Oper} {Q : Exit → Act → World → Prop} {S S' : World → Prop} (hS : ∀ x, S' x → S x) :
    ∀ (fuel : Nat) (listed : Array Bool) (a : Act) (w : World), wpAnyH P md ops Q S' fuel listed a w → wpAnyH P md ops Q S fuel listed a w
  | 0, _, _, _, h => h
  | fuel + 1, _, _, _, h => ⟨h.1, fun i hi => wpOp_mono (fun a' w' h' => ⟨hS _ h'.1, held_by hS fuel _ a' w' h'.2⟩) (h.2 i hi)⟩

theorem admin_any (w : World) : Calls Tryz.prog 55 #[] w fun e w' => e = .returned (.agg #[.int .i64 1040, .int .i64 1048576, .int .i64 1048576, .int .i64 0, .int .i64 0, .int .i64 32, .int .i64 2, .int .i64 0, .int .i64 0]) ∧ Below w.heap.size w w' := by
  go_enter Tryz.func55, Tryz.ntmps55
  go_wp2
  refine bodyPost_ret (v := .agg #[.int .i64 1040, .int .i64 1048576, .int .i64 1048576, .int .i64 0, .int .i64 0, .int .i64 32, .int .i64 2, .int .i64 0, .int .i64 0]) (by simp [results, Tryz.results55, go_sem]) rfl ⟨rfl, ?_⟩
  repeat (first | exact Below.refl _ _ | apply below_drewN | apply Below.drew | refine Below.setCell ?_ (by simp) _ | refine Below.alloc ?_ (by simp) _)

def gateCells : Array Value := #[.int .i64 1048576, .int .i64 1048576, .int .i64 1048576, .int .i64 0, .int .i64 0, .int .i64 0, .int .i64 0, .int .i64 32, .int .i64 0, .bool false]
set_option maxRecDepth 100000 in
set_option maxHeartbeats 4000000 in
theorem gateNew (w : World) :
    Calls Tryz.prog 54 #[.agg #[.int .i64 1040, .int .i64 1048576, .int .i64 1048576, .int .i64 0, .int .i64 0, .int .i64 32, .int .i64 2, .int .i64 0, .int .i64 0]] w fun e w' => ∃ p, w.heap.size ≤ p ∧ e = .returned (.pointer (some ⟨p, 0, none⟩)) ∧ Blk p gateCells 169 w' ∧ Below w.heap.size w w' := by
  have hb0 := Lib.hid (Blk.new w #[.int .i64 1040, .int .i64 1048576, .int .i64 1048576, .int .i64 0, .int .i64 0, .int .i64 32, .int .i64 2, .int .i64 0, .int .i64 0] 110)
  have q0 : Below w.heap.size w (w.alloc (.cells #[.int .i64 1040, .int .i64 1048576, .int .i64 1048576, .int .i64 0, .int .i64 0, .int .i64 32, .int .i64 2, .int .i64 0, .int .i64 0] 110)) := (Below.refl _ _).alloc (Nat.le_refl _) _
  replace q0 := Lib.hid q0
  have ac0 := fun x => accNew 0 x (by decide) (by decide)
  have ac32 := fun x => accNew 32 x (by decide) (by decide)
  go_enter Tryz.func54, Tryz.ntmps54
  go_wp2_with fail
  refine wp_region_held_drew (S := fun x => Below (w.alloc (.cells #[.int .i64 1040, .int .i64 1048576, .int .i64 1048576, .int .i64 0, .int .i64 0, .int .i64 32, .int .i64 2, .int .i64 0, .int .i64 0] 110)).heap.size (w.alloc (.cells #[.int .i64 1040, .int .i64 1048576, .int .i64 1048576, .int .i64 0, .int .i64 0, .int .i64 32, .int .i64 2, .int .i64 0, .int .i64 0] 110)) x) (by kernel_rfl) ?_ (fun hHeld => ?_)
  · exact (Below.refl _ _).drew
  refine wpAnyH_take (i := 0) (v := ?_) rfl (by kernel_rfl) (by kernel_rfl) (by kernel_rfl) (fun _ _ _ h => h) (Or.inl ⟨by rfl, ?_⟩) (by assumption) ?_
  rotate_left 1
  · intro wq hSw
    go_simp
    try with_reducible rfl
  try simp only [Act.put, List.setIfInBounds_toArray, List.set_cons_zero, List.set_cons_succ]
  refine wpAnyH_take (i := 1) (v := ?_) rfl (by kernel_rfl) (by kernel_rfl) (by kernel_rfl) (fun _ _ _ h => h) (Or.inl ⟨by rfl, ?_⟩) (by assumption) ?_
  rotate_left 1
  · intro wq hSw
    have c := (hb0.out.below hSw).cell (i := 1) (v := .int .i64 1048576) rfl
    clear hSw
    go_simp
    try with_reducible rfl
  try simp only [Act.put, List.setIfInBounds_toArray, List.set_cons_zero, List.set_cons_succ]
  refine wpAnyH_take (i := 2) (v := ?_) rfl (by kernel_rfl) (by kernel_rfl) (by kernel_rfl) (fun _ _ _ h => h) (Or.inl ⟨by rfl, ?_⟩) (by assumption) ?_
  rotate_left 1
  · intro wq hSw
    go_simp
    try with_reducible rfl
  try simp only [Act.put, List.setIfInBounds_toArray, List.set_cons_zero, List.set_cons_succ]
  refine wpAnyH_take (i := 3) (v := ?_) rfl (by kernel_rfl) (by kernel_rfl) (by kernel_rfl) (fun _ _ _ h => h) (Or.inl ⟨by rfl, ?_⟩) (by assumption) ?_
  rotate_left 1
  · intro wq hSw
    have c := (hb0.out.below hSw).cell (i := 2) (v := .int .i64 1048576) rfl
    clear hSw
    go_simp
    try with_reducible rfl
  try simp only [Act.put, List.setIfInBounds_toArray, List.set_cons_zero, List.set_cons_succ]
  refine wpAnyH_take (i := 7) (v := ?_) rfl (by kernel_rfl) (by kernel_rfl) (by kernel_rfl) (fun _ _ _ h => h) (Or.inl ⟨by rfl, ?_⟩) (by assumption) ?_
  rotate_left 1
  · intro wq hSw
    go_simp
    try with_reducible rfl
  try simp only [Act.put, List.setIfInBounds_toArray, List.set_cons_zero, List.set_cons_succ]
  refine wpAnyH_take (i := 8) (v := ?_) rfl (by kernel_rfl) (by kernel_rfl) (by kernel_rfl) (fun _ _ _ h => h) (Or.inl ⟨by rfl, ?_⟩) (by assumption) ?_
  rotate_left 1
  · intro wq hSw
    have c := (hb0.out.below hSw).cell (i := 3) (v := .int .i64 0) rfl
    clear hSw
    go_simp
    try with_reducible rfl
  try simp only [Act.put, List.setIfInBounds_toArray, List.set_cons_zero, List.set_cons_succ]
  refine wpAnyH_take (i := 12) (v := ?_) rfl (by kernel_rfl) (by kernel_rfl) (by kernel_rfl) (fun _ _ _ h => h) (Or.inl ⟨by rfl, ?_⟩) (by assumption) ?_
  rotate_left 1
  · intro wq hSw
    go_simp
    try with_reducible rfl
  try simp only [Act.put, List.setIfInBounds_toArray, List.set_cons_zero, List.set_cons_succ]
  refine wpAnyH_take (i := 13) (v := ?_) rfl (by kernel_rfl) (by kernel_rfl) (by kernel_rfl) (fun _ _ _ h => h) (Or.inl ⟨by rfl, ?_⟩) (by assumption) ?_
  rotate_left 1
  · intro wq hSw
    have c := (hb0.out.below hSw).cell (i := 4) (v := .int .i64 0) rfl
    clear hSw
    go_simp
    try with_reducible rfl
  try simp only [Act.put, List.setIfInBounds_toArray, List.set_cons_zero, List.set_cons_succ]
  refine wpAnyH_take (i := 17) (v := ?_) rfl (by kernel_rfl) (by kernel_rfl) (by kernel_rfl) (fun _ _ _ h => h) (Or.inl ⟨by rfl, ?_⟩) (by assumption) ?_
  rotate_left 1
  · intro wq hSw
    go_simp
    try with_reducible rfl
  try simp only [Act.put, List.setIfInBounds_toArray, List.set_cons_zero, List.set_cons_succ]
  refine wpAnyH_take (i := 18) (v := ?_) rfl (by kernel_rfl) (by kernel_rfl) (by kernel_rfl) (fun _ _ _ h => h) (Or.inl ⟨by rfl, ?_⟩) (by assumption) ?_
  rotate_left 1
  · intro wq hSw
    have c := (hb0.out.below hSw).cell (i := 5) (v := .int .i64 32) rfl
    clear hSw
    go_simp
    try with_reducible rfl
  try simp only [Act.put, List.setIfInBounds_toArray, List.set_cons_zero, List.set_cons_succ]
  refine wpAnyH_ready (rs := [4]) (by kernel_rfl) (by simp) ?_
  refine AllReadyH.cons rfl (fun K hK => ?_) AllReadyH.nil
  go_simp
  refine (bktNew _).mono ?_
  rintro e w1 ⟨rfl, b1, g1⟩
  refine hK.out _ _ ?_ (fun _ => ?_)
  · exact Below.trans (by assumption) (g1.mono (by have := (by assumption : Below _ (w.alloc (.cells #[.int .i64 1040, .int .i64 1048576, .int .i64 1048576, .int .i64 0, .int .i64 0, .int .i64 32, .int .i64 2, .int .i64 0, .int .i64 0] 110)) _).size; first | exact this | simpa using this))
  clear hK K
  try simp only [Act.put, List.setIfInBounds_toArray, List.set_cons_zero, List.set_cons_succ]
  replace b1 : Blk (w.heap.size + 1) #[.int .i64 1048576, .int .i64 1048576, .int .i64 1048576] 161 w1 := by simpa using b1
  have hb1 := Lib.hid b1
  clear b1
  have q1 := Lib.hid (q0.out.trans ((by assumption : Below _ (w.alloc (.cells #[.int .i64 1040, .int .i64 1048576, .int .i64 1048576, .int .i64 0, .int .i64 0, .int .i64 32, .int .i64 2, .int .i64 0, .int .i64 0] 110)) w1).mono q0.out.size))
  refine held_by (S' := fun x => Below w1.heap.size w1 x) (fun x hx => Below.trans (by assumption) (hx.mono (by assumption : Below _ (w.alloc (.cells #[.int .i64 1040, .int .i64 1048576, .int .i64 1048576, .int .i64 0, .int .i64 0, .int .i64 32, .int .i64 2, .int .i64 0, .int .i64 0] 110)) w1).size)) _ _ _ _ ?_
  have hHeld1 : Below w1.heap.size w1 w1 := Below.refl _ _
  refine wpAnyH_take (i := 5) (v := ?_) rfl (by kernel_rfl) (by kernel_rfl) (by kernel_rfl) (fun _ _ _ h => h) (Or.inl ⟨by rfl, ?_⟩) (by assumption) ?_
  rotate_left 1
  · intro wq hSw
    go_simp
    try with_reducible rfl
  try simp only [Act.put, List.setIfInBounds_toArray, List.set_cons_zero, List.set_cons_succ]
  refine wpAnyH_take (i := 6) (v := ?_) rfl (by kernel_rfl) (by kernel_rfl) (by kernel_rfl) (fun _ _ _ h => h) (Or.inl ⟨by rfl, ?_⟩) (by assumption) ?_
  rotate_left 1
  · intro wq hSw
    have c0 := (hb1.out.below hSw).cell (i := 0) (v := .int .i64 1048576) rfl
    have c1 := (hb1.out.below hSw).cell (i := 1) (v := .int .i64 1048576) rfl
    have c2 := (hb1.out.below hSw).cell (i := 2) (v := .int .i64 1048576) rfl
    clear hSw
    go_simp
    try with_reducible rfl
  try simp only [Act.put, List.setIfInBounds_toArray, List.set_cons_zero, List.set_cons_succ]
  refine wpAnyH_ready (rs := [9]) (by kernel_rfl) (by simp) ?_
  refine AllReadyH.cons rfl (fun K hK => ?_) AllReadyH.nil
  go_simp
  refine (ac0 _).mono ?_
  rintro e w2 ⟨rfl, b2, g2⟩
  refine hK.out _ _ ?_ (fun _ => ?_)
  · exact Below.trans (by assumption) (g2.mono (by have := (by assumption : Below _ w1 _).size; first | exact this | simpa using this))
  clear hK K
  try simp only [Act.put, List.setIfInBounds_toArray, List.set_cons_zero, List.set_cons_succ]
  have hb2 := Lib.hid b2
  clear b2
  have q2 := Lib.hid (q1.out.trans ((by assumption : Below _ w1 w2).mono q1.out.size))
  refine held_by (S' := fun x => Below w2.heap.size w2 x) (fun x hx => Below.trans (by assumption) (hx.mono (by assumption : Below _ w1 w2).size)) _ _ _ _ ?_
  have hHeld2 : Below w2.heap.size w2 w2 := Below.refl _ _
  refine wpAnyH_take (i := 10) (v := ?_) rfl (by kernel_rfl) (by kernel_rfl) (by kernel_rfl) (fun _ _ _ h => h) (Or.inl ⟨by rfl, ?_⟩) (by assumption) ?_
  rotate_left 1
  · intro wq hSw
    go_simp
    try with_reducible rfl
  try simp only [Act.put, List.setIfInBounds_toArray, List.set_cons_zero, List.set_cons_succ]
  refine wpAnyH_take (i := 11) (v := ?_) rfl (by kernel_rfl) (by kernel_rfl) (by kernel_rfl) (fun _ _ _ h => h) (Or.inl ⟨by rfl, ?_⟩) (by assumption) ?_
  rotate_left 1
  · intro wq hSw
    have c0 := (hb2.out.below hSw).cell (i := 0) (v := .int .i64 0) rfl
    have c1 := (hb2.out.below hSw).cell (i := 1) (v := .int .i64 0) rfl
    clear hSw
    go_simp
    try with_reducible rfl
  try simp only [Act.put, List.setIfInBounds_toArray, List.set_cons_zero, List.set_cons_succ]
  refine wpAnyH_ready (rs := [14]) (by kernel_rfl) (by simp) ?_
  refine AllReadyH.cons rfl (fun K hK => ?_) AllReadyH.nil
  go_simp
  refine (ac0 _).mono ?_
  rintro e w3 ⟨rfl, b3, g3⟩
  refine hK.out _ _ ?_ (fun _ => ?_)
  · exact Below.trans (by assumption) (g3.mono (by have := (by assumption : Below _ w2 _).size; first | exact this | simpa using this))
  clear hK K
  try simp only [Act.put, List.setIfInBounds_toArray, List.set_cons_zero, List.set_cons_succ]
  have hb3 := Lib.hid b3
  clear b3
  have q3 := Lib.hid (q2.out.trans ((by assumption : Below _ w2 w3).mono q2.out.size))
  refine held_by (S' := fun x => Below w3.heap.size w3 x) (fun x hx => Below.trans (by assumption) (hx.mono (by assumption : Below _ w2 w3).size)) _ _ _ _ ?_
  have hHeld3 : Below w3.heap.size w3 w3 := Below.refl _ _
  refine wpAnyH_take (i := 15) (v := ?_) rfl (by kernel_rfl) (by kernel_rfl) (by kernel_rfl) (fun _ _ _ h => h) (Or.inl ⟨by rfl, ?_⟩) (by assumption) ?_
  rotate_left 1
  · intro wq hSw
    go_simp
    try with_reducible rfl
  try simp only [Act.put, List.setIfInBounds_toArray, List.set_cons_zero, List.set_cons_succ]
  refine wpAnyH_take (i := 16) (v := ?_) rfl (by kernel_rfl) (by kernel_rfl) (by kernel_rfl) (fun _ _ _ h => h) (Or.inl ⟨by rfl, ?_⟩) (by assumption) ?_
  rotate_left 1
  · intro wq hSw
    have c0 := (hb3.out.below hSw).cell (i := 0) (v := .int .i64 0) rfl
    have c1 := (hb3.out.below hSw).cell (i := 1) (v := .int .i64 0) rfl
    clear hSw
    go_simp
    try with_reducible rfl
  try simp only [Act.put, List.setIfInBounds_toArray, List.set_cons_zero, List.set_cons_succ]
  refine wpAnyH_ready (rs := [19]) (by kernel_rfl) (by simp) ?_
  refine AllReadyH.cons rfl (fun K hK => ?_) AllReadyH.nil
  go_simp
  refine (ac32 _).mono ?_
  rintro e w4 ⟨rfl, b4, g4⟩
  refine hK.out _ _ ?_ (fun _ => ?_)
  · exact Below.trans (by assumption) (g4.mono (by have := (by assumption : Below _ w3 _).size; first | exact this | simpa using this))
  clear hK K
  try simp only [Act.put, List.setIfInBounds_toArray, List.set_cons_zero, List.set_cons_succ]
  have hb4 := Lib.hid b4
  clear b4
  have q4 := Lib.hid (q3.out.trans ((by assumption : Below _ w3 w4).mono q3.out.size))
  refine held_by (S' := fun x => Below w4.heap.size w4 x) (fun x hx => Below.trans (by assumption) (hx.mono (by assumption : Below _ w3 w4).size)) _ _ _ _ ?_
  have hHeld4 : Below w4.heap.size w4 w4 := Below.refl _ _
  refine wpAnyH_take (i := 20) (v := ?_) rfl (by kernel_rfl) (by kernel_rfl) (by kernel_rfl) (fun _ _ _ h => h) (Or.inl ⟨by rfl, ?_⟩) (by assumption) ?_
  rotate_left 1
  · intro wq hSw
    go_simp
    try with_reducible rfl
  try simp only [Act.put, List.setIfInBounds_toArray, List.set_cons_zero, List.set_cons_succ]
  refine wpAnyH_take (i := 21) (v := ?_) rfl (by kernel_rfl) (by kernel_rfl) (by kernel_rfl) (fun _ _ _ h => h) (Or.inl ⟨by rfl, ?_⟩) (by assumption) ?_
  rotate_left 1
  · intro wq hSw
    have c0 := (hb4.out.below hSw).cell (i := 0) (v := .int .i64 32) rfl
    have c1 := (hb4.out.below hSw).cell (i := 1) (v := .int .i64 0) rfl
    clear hSw
    go_simp
    try with_reducible rfl
  try simp only [Act.put, List.setIfInBounds_toArray, List.set_cons_zero, List.set_cons_succ]
  refine wpAnyH_take (i := 22) (v := ?_) rfl (by kernel_rfl) (by kernel_rfl) (by kernel_rfl) (fun _ _ _ h => h) (Or.inl ⟨by rfl, ?_⟩) (by assumption) ?_
  rotate_left 1
  · intro wq hSw
    go_simp
    try with_reducible rfl
  try simp only [Act.put, List.setIfInBounds_toArray, List.set_cons_zero, List.set_cons_succ]
  refine wpAnyH_ready (rs := [23]) (by kernel_rfl) (by simp) ?_
  refine AllReadyH.cons rfl (fun K hK => ?_) AllReadyH.nil
  go_simp
  refine hK.out _ _ ?_ (fun _ => ?_)
  · exact (Below.refl _ _).alloc (Nat.le_refl _) _
  clear hK K
  try simp only [Act.put, List.setIfInBounds_toArray, List.set_cons_zero, List.set_cons_succ]
  refine wpAnyH_take (i := 24) (v := ?_) rfl (by kernel_rfl) (by kernel_rfl) (by kernel_rfl) (fun _ _ _ h => h) (Or.inl ⟨by rfl, ?_⟩) (by assumption) ?_
  rotate_left 1
  · intro wq hSw
    go_simp
    try with_reducible rfl
  try simp only [Act.put, List.setIfInBounds_toArray, List.set_cons_zero, List.set_cons_succ]
  refine wpAnyH_done (by kernel_rfl) ?_ _
  simp only [Act.put, List.setIfInBounds_toArray, List.set_cons_zero, List.set_cons_succ, List.getElem_toArray, List.getElem_cons_zero, List.getElem_cons_succ]
  go_wp2
  go_ret
  refine ⟨w4.heap.size, q4.out.size, ?_, ?_, ?_⟩
  · simp
  · exact Blk.new _ _ _
  · exact q4.out.alloc q4.out.size _
end Go.Proofs.YteejogoiikmlgaaGreatDoor.Serv
