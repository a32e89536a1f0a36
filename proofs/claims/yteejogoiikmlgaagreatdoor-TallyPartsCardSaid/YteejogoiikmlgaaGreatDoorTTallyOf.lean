/-
  tally.Of of a tick and a turn: the walk.
-/
import Derived.Test.YteejogoiikmlgaaGreatDoorTOf
namespace Go.Proofs.YteejogoiikmlgaaGreatDoor.Serv
open Go.RowKit Go.Proofs.YteejogoiikmlgaaGreatDoor.Tally
set_option linter.unusedVariables false
set_option linter.unusedSimpArgs false
set_option linter.unnecessarySimpa false

/-- what is counted of a tick and a turn of nobody -/
def awF : Nat → Int := put (put zero 41 1) 40 1
theorem rowF_tick (f : Nat → Int) (h : f 41 = 0) : rowF f 4 0 0 0 = put f 41 1 := by
  unfold rowF
  rw [if_neg (by decide), if_neg (by decide), if_neg (by decide), if_pos rfl, h]
  rfl
theorem rowF_idle (f : Nat → Int) (h : f 40 = 0) : rowF f 3 0 0 0 = put f 40 1 := by
  unfold rowF
  rw [if_neg (by decide), if_neg (by decide), if_pos rfl, h]
  rfl

set_option maxRecDepth 100000 in
set_option maxHeartbeats 4000000 in
theorem tallyOf (key : Int) (E : Nat) (w : World) (h : Blk E evC 64 w) :
    Calls Tryz.prog 21 #[.int .u64 key, .slice (some ⟨E, 0, none⟩) 2 2] w fun e w' => ∃ B, e = .returned (.pointer (some ⟨B, 0, none⟩)) ∧ Tal B awF w' ∧ Below w.heap.size w w' := by
  replace h := Lib.hid h
  go_enter Tryz.func21, Tryz.ntmps21
  go_wp2_with fail
  refine (new_any _).mono ?_
  rintro e w1 ⟨rfl, t1, p1⟩
  have e1 := Lib.hid (h.out.below p1)
  have t1h := Lib.hid t1
  have p1h := Lib.hid p1
  have l1 : w.heap.size < w1.heap.size := t1.lt
  clear t1 p1
  go_wp2_with fail
  refine (traceOf key E _ e1.out).mono ?_
  rintro e w2 ⟨v, rfl, o2, p2⟩
  have t2 := t1h.out.below p2
  have e2 := e1.out.below p2
  have l2 : w1.heap.size ≤ w2.heap.size := p2.size
  have q2 := Lib.hid (p1h.out.trans (p2.mono (Nat.le_of_lt l1)))
  rcases o2.2 with ⟨_, h0⟩ | ⟨g, cap, cur, rfl, hbg, hgg, hcap, hmax, hsz, htk⟩
  · omega
  have cc := o2.cells (g := g) rfl
  have lg : g < w2.heap.size := lt_of_block hgg
  have k0 : w2.cell? ⟨g, 0, none⟩ = some (.int .i64 0) := by simpa [Addr.add] using cc 0 _ rfl
  have k1 : w2.cell? ⟨g, 1, none⟩ = some (.int .i64 4) := by simpa [Addr.add] using cc 1 _ rfl
  have k2 : w2.cell? ⟨g, 2, none⟩ = some (.int .i64 0) := by simpa [Addr.add] using cc 2 _ rfl
  have k3 : w2.cell? ⟨g, 3, none⟩ = some (.int .i64 0) := by simpa [Addr.add] using cc 3 _ rfl
  have k4 : w2.cell? ⟨g, 4, none⟩ = some (.int .i64 0) := by simpa [Addr.add] using cc 4 _ rfl
  have k5 : w2.cell? ⟨g, 5, none⟩ = some (.string ⟨#[]⟩) := by simpa [Addr.add] using cc 5 _ rfl
  have k6 : w2.cell? ⟨g, 6, none⟩ = some (.int .i64 0) := by simpa [Addr.add] using cc 6 _ rfl
  have k7 : w2.cell? ⟨g, 7, none⟩ = some (.string ⟨#[]⟩) := by simpa [Addr.add] using cc 7 _ rfl
  have gB : g ≠ w.heap.size := by omega
  have t2h := Lib.hid t2
  have e2h := Lib.hid e2
  have cch := Lib.hid cc
  clear t2 e2 cc p2 hgg hsz htk hmax hcap o2 t1h p1h e1
  go_wp2_with fail
  refine wp_loop_rounds 3 ?_
  rw [rounds_succ]
  go_wp2_with fail
  have lE := h.out.lt
  refine (row_any w.heap.size zero 0 4 0 0 0 ⟨#[]⟩ 0 ⟨#[]⟩ _ (t2h.out.below ((Below.refl _ _).alloc (Nat.le_refl _) _))).mono ?_
  rintro e w3 ⟨rfl, t3, g3⟩
  rw [rowF_tick zero rfl] at t3
  have G3 : w2.grownBy w3 (some w.heap.size) := (World.grownBy_alloc w2 _ _).trans g3
  have l3 := G3.size
  have e3 := e2h.out.grown G3 (by simp; omega)
  have q3 : Below w.heap.size w w3 := q2.out.grown G3 (by omega) (by intro k hk; cases hk; exact Nat.le_refl _)
  have cc3 : ∀ (j : Nat) (u : Value), (rowL 0 4 ++ rowL 1 3)[j]? = some u → w3.cell? ((⟨g, 0, none⟩ : Addr).add j) = some u := fun j u hu => G3.cell (cch.out j u hu) (by unfold Addr.add; split <;> (simp; exact gB))
  clear k0 k1 k2 k3 k4 k5 k6 k7
  have k0 : w3.cell? ⟨g, 8, none⟩ = some (.int .i64 1) := by simpa [Addr.add] using cc3 8 _ rfl
  have k1 : w3.cell? ⟨g, 9, none⟩ = some (.int .i64 3) := by simpa [Addr.add] using cc3 9 _ rfl
  have k2 : w3.cell? ⟨g, 10, none⟩ = some (.int .i64 0) := by simpa [Addr.add] using cc3 10 _ rfl
  have k3 : w3.cell? ⟨g, 11, none⟩ = some (.int .i64 0) := by simpa [Addr.add] using cc3 11 _ rfl
  have k4 : w3.cell? ⟨g, 12, none⟩ = some (.int .i64 0) := by simpa [Addr.add] using cc3 12 _ rfl
  have k5 : w3.cell? ⟨g, 13, none⟩ = some (.string ⟨#[]⟩) := by simpa [Addr.add] using cc3 13 _ rfl
  have k6 : w3.cell? ⟨g, 14, none⟩ = some (.int .i64 0) := by simpa [Addr.add] using cc3 14 _ rfl
  have k7 : w3.cell? ⟨g, 15, none⟩ = some (.string ⟨#[]⟩) := by simpa [Addr.add] using cc3 15 _ rfl
  replace t3 := Lib.hid t3
  replace e3 := Lib.hid e3
  replace q3 := Lib.hid q3
  clear g3 G3 cc3 cch t2h e2h q2
  go_wp2_with fail
  rw [rounds_succ]
  go_wp2_with fail
  refine (row_any w.heap.size _ 1 3 0 0 0 ⟨#[]⟩ 0 ⟨#[]⟩ _ (t3.out.below ((Below.refl _ _).alloc (Nat.le_refl _) _))).mono ?_
  rintro e w4 ⟨rfl, t4, g4⟩
  rw [rowF_idle _ (by rfl)] at t4
  have G4 : w3.grownBy w4 (some w.heap.size) := (World.grownBy_alloc w3 _ _).trans g4
  have l4 := G4.size
  have e4 := e3.out.grown G4 (by simp; omega)
  have q4 : Below w.heap.size w w4 := q3.out.grown G4 (by omega) (by intro k hk; cases hk; exact Nat.le_refl _)
  replace t4 := Lib.hid t4
  replace e4 := Lib.hid e4
  replace q4 := Lib.hid q4
  clear k0 k1 k2 k3 k4 k5 k6 k7 g4 G4 t3 e3 q3
  go_wp2_with fail
  rw [rounds_succ]
  go_wp2_with fail
  refine (serverNew key _).mono ?_
  rintro e w5 ⟨S, own, rfl, s5, p5, ho⟩
  have t5 := t4.out.below p5
  have e5 := e4.out.below p5
  have q5 : Below w.heap.size w w5 := q4.out.trans (p5.mono (by omega))
  have l5 := p5.size
  have m0 : w5.cell? ⟨E, 0, none⟩ = some (.int .i64 3) := e5.cell rfl
  have m1 : w5.cell? ⟨E, 1, none⟩ = some (.int .i64 0) := e5.cell rfl
  have m2 : w5.cell? ⟨E, 2, none⟩ = some (.int .u64 0) := e5.cell rfl
  have m3 : w5.cell? ⟨E, 3, none⟩ = some (.string ⟨#[]⟩) := e5.cell rfl
  replace t5 := Lib.hid t5
  replace e5 := Lib.hid e5
  replace q5 := Lib.hid q5
  replace s5 := Lib.hid s5
  have hoh := Lib.hid ho
  clear p5 ho t4 e4 q4
  go_wp2_with fail
  refine wp_loop_rounds 3 ?_
  rw [rounds_succ]
  go_wp2_with fail
  refine (evTick S 0 own 0 _ (s5.out.only (Only.alloc [] w5 _) (by simp)) (by decide)).mono ?_
  rintro e w6 ⟨rfl, s6, o6⟩
  have O6 : Only own w5 w6 := (Only.alloc own w5 _).trans o6
  have nB : w.heap.size ∉ own := fun q => by have := hoh.out _ q; omega
  have nE : E ∉ own := fun q => by have := hoh.out _ q; omega
  have t6 := Tal.only t5.out O6 nB
  have e6 := e5.out.only O6 nE
  have q6 : Below w.heap.size w w6 := O6.below q5.out (fun x hx => by have := hoh.out x hx; omega)
  have l6 := O6.size
  replace t6 := Lib.hid t6
  replace e6 := Lib.hid e6
  replace q6 := Lib.hid q6
  replace s6 := Lib.hid s6
  clear m0 m1 m2 m3 o6 O6 t5 e5 q5 s5 nB nE
  have m4 : w6.cell? ⟨E, 4, none⟩ = some (.int .i64 5) := e6.out.cell rfl
  have m5 : w6.cell? ⟨E, 5, none⟩ = some (.int .i64 0) := e6.out.cell rfl
  have m6 : w6.cell? ⟨E, 6, none⟩ = some (.int .u64 0) := e6.out.cell rfl
  have m7 : w6.cell? ⟨E, 7, none⟩ = some (.string ⟨#[]⟩) := e6.out.cell rfl
  go_wp2_with fail
  refine wp_loop_rounds 1 ?_
  rw [rounds_succ]
  go_wp2_with fail
  rw [rounds_succ]
  go_wp2_with fail
  refine (evServe S 1 own 1 _ (s6.out.only (Only.alloc [] w6 _) (by simp))).mono ?_
  rintro e w7 ⟨rfl, p7⟩
  have P7 : Below w6.heap.size w6 w7 := ((Below.refl _ _).alloc (Nat.le_refl _) _).trans (p7.mono (by simp))
  have t7 := t6.out.below P7
  have q7 : Below w.heap.size w w7 := q6.out.trans (P7.mono q6.out.size)
  replace t7 := Lib.hid t7
  replace q7 := Lib.hid q7
  clear p7 P7 t6 e6 q6 s6 m4 m5 m6 m7
  go_wp2_with fail
  refine wp_loop_rounds 1 ?_
  rw [rounds_succ]
  go_wp2_with fail
  rw [rounds_succ]
  go_wp2
  go_ret
  exact ⟨w.heap.size, rfl, t7.out, q7.out⟩
end Go.Proofs.YteejogoiikmlgaaGreatDoor.Serv
