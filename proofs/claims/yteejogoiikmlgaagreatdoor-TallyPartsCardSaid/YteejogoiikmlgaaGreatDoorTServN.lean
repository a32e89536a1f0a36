/-
  server.New: the walk.
-/
import Derived.Test.YteejogoiikmlgaaGreatDoorTMap
namespace Go.Proofs.YteejogoiikmlgaaGreatDoor.Serv
open Go.RowKit
set_option linter.unusedVariables false
set_option linter.unusedSimpArgs false
set_option linter.unnecessarySimpa false

/-- a server's cells: its tags, dice, connections, flows, book, tenants, ticks -/
def srvF (tags : Nat) (M : Nat) (now : Int) : Nat → Value := fun i =>
  if i = 0 then .pointer (some ⟨tags, 0, none⟩) else if i < 65 then .int .u64 0 else if i < 67 then .int .i64 0 else if i = 67 then .slice none 0 0 else if i = 68 then .map none
  else if i < 79 then .slice none 0 0 else if i = 79 then .map none else if i = 80 then .map (some M) else .int .i64 now

/-- a server on which nobody lives -/
structure Srv (S : Nat) (now : Int) (W : World) (own : List Nat) : Prop where
  some : ∃ B M T G, Blk S (Arr 82 (srvF B M now)) 134 W ∧ TMap M T W ∧ Blk T #[.pointer (some ⟨G, 0, none⟩), .pointer none] 114 W ∧ Blk G gateCells 169 W ∧ own = [S, M, T, G] ∧ S ≠ G ∧ S ≠ M ∧ S ≠ T ∧ T ≠ G ∧ M ≠ G

set_option maxRecDepth 100000 in
theorem srv_cells (a M : Nat) : (Tryz.zeroCells134.setIfInBounds 0 (.pointer (some ⟨a, 0, none⟩))).setIfInBounds 80 (.map (some M)) = Arr 82 (srvF a M 0) := by rfl

set_option maxRecDepth 100000 in
set_option maxHeartbeats 2000000 in
theorem serverNew (key : Int) (w : World) :
    Calls Tryz.prog 40 #[.int .u64 key] w fun e w' => ∃ S own, e = .returned (.pointer (some ⟨S, 0, none⟩)) ∧ Srv S 0 w' own ∧ Below w.heap.size w w' ∧ (∀ x ∈ own, w.heap.size ≤ x) := by
  have hmm := @run_makeMap Tryz.prog
  go_enter Tryz.func40, Tryz.ntmps40
  go_wp2_with fail
  refine (macNew _).mono ?_
  rintro e w1 ⟨rfl, b1, q1⟩
  have b1' := Lib.hid b1
  have q1' := Lib.hid q1
  clear b1 q1
  go_wp2_with fail
  refine (admin_any _).mono ?_
  rintro e w2 ⟨rfl, q2⟩
  have m2 : Hid (w2.ownsMap Tryz.prog 3 ptrR w1.heap.size 0 (.map [])) := by
    obtain ⟨es, clock, hb, r⟩ := World.ownsMap_made w1 Tryz.prog 3 ptrR
    exact ⟨es, clock, (q2.block _ (by simp)).trans hb, r⟩
  have b2 := Lib.hid ((b1'.out.below ((Below.refl _ _).alloc (Nat.le_refl _) _)).below q2)
  have p2 : Hid (Below w.heap.size w w2) := (q1'.out.alloc q1'.out.size _).trans (q2.mono (by have := q1'.out.size; simp; omega))
  have z1 : w.heap.size < w1.heap.size := b1'.out.lt
  have z2 : w1.heap.size < w2.heap.size := Nat.lt_of_lt_of_le (by simp) q2.size
  clear b1' q1' q2
  go_wp2_with fail
  refine (gateNew _).mono ?_
  rintro e w3 ⟨G, hG, rfl, bG, q3⟩
  have z3 := q3.size
  have m3 : Hid (w3.ownsMap Tryz.prog 3 ptrR w1.heap.size 0 (.map [])) := by
    obtain ⟨es, clock, hb, r⟩ := m2.out
    exact ⟨es, clock, (q3.block _ z2).trans hb, r⟩
  have b3 := Lib.hid (b2.out.below q3)
  have p3 : Hid (Below w.heap.size w w3) := p2.out.trans (q3.mono (by omega))
  have bG3 := Lib.hid bG
  have zG := bG.lt
  clear m2 b2 p2 q3 bG
  obtain ⟨w4, hrun, m4, o4⟩ := TMap.make w (w3.alloc (.cells #[.pointer (some ⟨G, 0, none⟩), .pointer none] 114)) w1.heap.size w3.heap.size (m3.out.alloc _)
  go_wp2_with fail
  refine (diceNew _).mono ?_
  rintro e w5 ⟨rfl, b5, q5⟩
  have o5 : Only [] w4 w5 := (Only.alloc _ _ _).trans (Only.of_below q5)
  have bS : Blk w4.heap.size (Arr 82 (srvF w.heap.size w1.heap.size 0)) 134 w5 := by
    have := Blk.new w4 ((Tryz.zeroCells134.setIfInBounds 0 (.pointer (some ⟨w.heap.size, 0, none⟩))).setIfInBounds 80 (.map (some w1.heap.size))) 134
    rw [srv_cells] at this
    rw [← srv_cells] at this ⊢
    exact this.below q5
  replace b5 : Blk (w4.heap.size + 1) (Arr 66 diceF) 118 w5 := by simpa using b5
  have z4 := o4.size
  simp at z4
  have z5 : w4.heap.size + 1 < w5.heap.size := b5.lt
  replace b5 := Lib.hid b5
  replace bS := Lib.hid bS
  replace o5 := Lib.hid o5
  replace o4 := Lib.hid o4
  clear q5
  go_wp2_with fail
  refine (dicePut _ _ _ b5.out).mono ?_
  rintro e w6 ⟨rfl, ⟨f, b6, h0, h64, h65⟩, o6⟩
  have bS6 := bS.out.only o6 (by simp)
  have c0 : w6.cell? ⟨w4.heap.size, 0, none⟩ = some (.pointer (some ⟨w.heap.size, 0, none⟩)) := bS6.cellF 0 (by decide)
  have bM : Blk w.heap.size (Arr 27 macF) 159 w6 := by
    have := (b3.out.below ((Below.refl _ _).alloc (Nat.le_refl _) (.cells #[.pointer (some ⟨G, 0, none⟩), .pointer none] 114))).only o4.out (by simp; omega)
    exact (this.only o5.out (by simp)).only o6 (by simp; omega)
  have tM : TMap w1.heap.size w3.heap.size w6 := (m4.only o5.out (by simp)).only o6 (by simp; omega)
  have bT : Blk w3.heap.size #[.pointer (some ⟨G, 0, none⟩), .pointer none] 114 w6 :=
    (((Blk.new w3 _ _).only o4.out (by simp; omega)).only o5.out (by simp)).only o6 (by simp; omega)
  have bG6 : Blk G gateCells 169 w6 :=
    (((bG3.out.below ((Below.refl _ _).alloc (Nat.le_refl _) _)).only o4.out (by simp; omega)).only o5.out (by simp)).only o6 (by simp; omega)
  have p6 : Below w.heap.size w w6 := by
    have h3 : Below w.heap.size w (w3.alloc (.cells #[.pointer (some ⟨G, 0, none⟩), .pointer none] 114)) := p3.out.alloc p3.out.size _
    have h4 := o4.out.below h3 (by simp; omega)
    have h5 := o5.out.below h4 (by simp)
    exact o6.below h5 (by simp; omega)
  replace bM := Lib.hid bM
  replace tM := Lib.hid tM
  replace bT := Lib.hid bT
  replace bG6 := Lib.hid bG6
  replace bS6 := Lib.hid bS6
  replace p6 := Lib.hid p6
  replace b6 := Lib.hid b6
  have H0 := Lib.hid h0
  have H64 := Lib.hid h64
  have H65 := Lib.hid h65
  clear b3 m3 p3 bG3 m4 hrun o4 o5 o6 b5 bS h0 h64 h65
  go_wp2_with fail
  refine (issue0 _ _ key f _ bM.out b6.out H0.out H64.out H65.out (by omega)).mono ?_
  rintro e w7 ⟨⟨a, b, c, rfl⟩, o7⟩
  go_wp2
  go_ret
  have zS : w4.heap.size < w6.heap.size := bS6.out.lt
  have zT : w3.heap.size < w4.heap.size := by omega
  refine ⟨w4.heap.size, _, rfl, ⟨⟨w.heap.size, w1.heap.size, w3.heap.size, G, bS6.out.only o7 (by simp; omega), tM.out.only o7 (by simp; omega), bT.out.only o7 (by simp; omega), bG6.out.only o7 (by simp; omega), rfl, by omega, by omega, by omega, by omega, by omega⟩⟩, o7.below p6.out (by simp; omega), by simp; omega⟩
end Go.Proofs.YteejogoiikmlgaaGreatDoor.Serv
