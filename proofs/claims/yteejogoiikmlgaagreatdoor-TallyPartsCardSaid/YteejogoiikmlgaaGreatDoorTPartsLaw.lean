/-
  TallyParts: the statement's walk.
-/
import Derived.Test.YteejogoiikmlgaaGreatDoorTRowLaw
import Derived.Test.YteejogoiikmlgaaGreatDoorTAdd
import Derived.Test.YteejogoiikmlgaaGreatDoorTFmt
import Derived.Test.YteejogoiikmlgaaGreatDoorTPartsPlain
namespace Go.Proofs.YteejogoiikmlgaaGreatDoor.PartsLaw
open Go.RowKit Go.Proofs.YteejogoiikmlgaaGreatDoor.Tally Go.Proofs.YteejogoiikmlgaaGreatDoor.Serv Go.Proofs.YteejogoiikmlgaaGreatDoor.Rows49
set_option linter.unusedVariables false
set_option linter.unusedSimpArgs false
set_option linter.unnecessarySimpa false

/-- Three tallies. -/
structure Three (w0 : World) (A B C : Nat) (f g h : Nat → Int) (w : World) : Prop where
  all : Tal A f w
  a : Tal B g w
  b : Tal C h w
  below : Below w0.heap.size w0 w
  bA : w0.heap.size ≤ A
  bB : w0.heap.size ≤ B
  bC : w0.heap.size ≤ C
  ab : A ≠ B
  ac : A ≠ C
  bc : B ≠ C

set_option maxRecDepth 100000 in
theorem add_none (p : Addr) (w : World) : Calls Tryz.prog 18 #[.pointer (some p), .pointer none] w fun e w' => e = .returned (.tuple #[]) ∧ w = w' := by
  go_enter Tryz.func18, Tryz.ntmps18
  go_wp2
  exact bodyPost_ret (v := .tuple #[]) (by simp [results, Tryz.results18, go_sem]) rfl ⟨rfl, rfl⟩
theorem Three.on {w0 : World} {A B C : Nat} {f g h : Nat → Int} {w w' : World} (t : Three w0 A B C f g h w) (hb : Below w.heap.size w w') : Three w0 A B C f g h w' :=
  ⟨t.all.below hb, t.a.below hb, t.b.below hb, t.below.trans (hb.mono t.below.size), t.bA, t.bB, t.bC, t.ab, t.ac, t.bc⟩
theorem Three.setA {w0 : World} {A B C : Nat} {f g h f' : Nat → Int} {w w' : World} (t : Three w0 A B C f g h w) (ht : Tal A f' w') (hg : w.grownBy w' (some A)) : Three w0 A B C f' g h w' :=
  ⟨ht, t.a.grown hg (by simpa using t.ab.symm), t.b.grown hg (by simpa using t.ac.symm), t.below.grown hg t.below.size (fun k hk => by cases hk; exact t.bA), t.bA, t.bB, t.bC, t.ab, t.ac, t.bc⟩
theorem Three.setB {w0 : World} {A B C : Nat} {f g h f' : Nat → Int} {w w' : World} (t : Three w0 A B C f g h w) (ht : Tal B f' w') (hg : w.grownBy w' (some B)) : Three w0 A B C f f' h w' :=
  ⟨t.all.grown hg (by simpa using t.ab), ht, t.b.grown hg (by simpa using t.bc.symm), t.below.grown hg t.below.size (fun k hk => by cases hk; exact t.bB), t.bA, t.bB, t.bC, t.ab, t.ac, t.bc⟩
theorem Three.setC {w0 : World} {A B C : Nat} {f g h f' : Nat → Int} {w w' : World} (t : Three w0 A B C f g h w) (ht : Tal C f' w') (hg : w.grownBy w' (some C)) : Three w0 A B C f g f' w' :=
  ⟨t.all.grown hg (by simpa using t.ac), t.a.grown hg (by simpa using t.bc), ht, t.below.grown hg t.below.size (fun k hk => by cases hk; exact t.bC), t.bA, t.bB, t.bC, t.ab, t.ac, t.bc⟩

set_option maxRecDepth 100000 in
set_option maxHeartbeats 4000000 in
theorem walk (x0 : Option Addr) (n0 c0 : Nat) (x1 : Option Addr) (n1 c1 : Nat) (n : Int) (L : Nat → RowV) (M : Nat → OutV) (w : World) (tab : Tab w)
    (hr : SliceAt 8 (.slice x0 n0 c0) w n0 (fun i => (L i).vals)) (ho : SliceAt 4 (.slice x1 n1 c1) w n1 (fun i => (M i).vals)) :
    Calls Tryz.prog 4 #[.slice x0 n0 c0, .slice x1 n1 c1, .int .i64 n] w fun e w' => e = .returned (.bool true) ∧ Below w.heap.size w w' := by
  replace hr := Lib.hid hr
  replace ho := Lib.hid ho
  replace tab := Lib.hid tab
  go_enter Tryz.func4, Tryz.ntmps4
  by_cases hbig : n0 > 300 ∨ n1 > 300
  · clear hr ho
    by_cases h0 : (n0 : Int) > 300
    · go_wp2_with fail
      refine (Serv.awake_any _).mono ?_
      rintro e w1 ⟨rfl, g1⟩
      go_wp2
      go_ret
      exact ⟨rfl, by first | exact g1 | exact (Below.refl _ _).drew.trans g1⟩
    · have h1 : (n1 : Int) > 300 := by omega
      go_wp2_with fail
      refine (Serv.awake_any _).mono ?_
      rintro e w1 ⟨rfl, g1⟩
      go_wp2
      go_ret
      exact ⟨rfl, by first | exact g1 | exact (Below.refl _ _).drew.trans g1⟩
  · have h0 : n0 ≤ 300 := by omega
    have h1 : n1 ≤ 300 := by omega
    have h0' : ¬ ((n0 : Int) > 300) := by omega
    have h1' : ¬ ((n1 : Int) > 300) := by omega
    clear hbig
    go_wp2_with fail
    refine (new_any _).mono ?_
    rintro e w1 ⟨rfl, t1, g1⟩
    have l1 := t1.lt
    replace t1 := Lib.hid t1
    replace g1 := Lib.hid g1
    go_wp2_with fail
    refine (new_any _).mono ?_
    rintro e w2 ⟨rfl, t2, g2⟩
    have u1 := t1.out.below g2
    have b2 := g1.out.trans (g2.mono g1.out.size)
    clear t1 g1
    have l2 := t2.lt
    replace t2 := Lib.hid t2
    replace u1 := Lib.hid u1
    replace b2 := Lib.hid b2
    go_wp2_with fail
    have z1 : Hid (Three w w.heap.size w1.heap.size w2.heap.size (rowsF L (fun _ => true) zero 0) (rowsF L (fun i => decide ((i : Int) < n)) zero 0) (rowsF L (fun i => !decide ((i : Int) < n)) zero 0) (w2.alloc (.cells (tcells zero) 55))) := by
      have hb : Below w2.heap.size w2 (w2.alloc (.cells (tcells zero) 55)) := (Below.refl _ _).alloc (Nat.le_refl _) _
      exact ⟨u1.out.below hb, t2.out.below hb, heap_alloc_new w2 _, b2.out.trans (hb.mono b2.out.size), Nat.le_refl _, by omega, by omega, by omega, by omega, by omega⟩
    clear l1 l2
    clear t2 u1 b2
    go_wp2_with fail
    go_loopw [10] (fun i wr => ∃ k : Nat, k ≤ n0 ∧ i = .int .i64 k ∧ Hid (Three w w.heap.size w1.heap.size w2.heap.size (rowsF L (fun _ => true) zero k) (rowsF L (fun i => decide ((i : Int) < n)) zero k) (rowsF L (fun i => !decide ((i : Int) < n)) zero k) wr)) (fun i _ => n0 - (intOf i).toNat)
    case atStart => exact ⟨0, by omega, rfl, z1⟩
    case round =>
      obtain ⟨k, hk, rfl, hx⟩ := hrel
      by_cases hlt : k < n0
      · have hlt' : (k : Int) < n0 := by omega
        obtain ⟨a, rfl⟩ := hr.out.ptr (by omega)
        obtain ⟨d0, d1, d2, d3, d4, d5, d6, d7⟩ := hr.out.row hx.out.below hlt
        go_wp2_with fail
        refine (rowOf_any _ _ _ _ _ _ _ _ _).mono ?_
        rintro e w3 ⟨rfl, g3⟩
        replace hx := Lib.hid (hx.out.on g3)
        clear d0 d1 d2 d3 d4 d5 d6 d7 g3
        go_wp2_with fail
        refine (row_any _ _ _ _ _ _ _ _ _ _ _ hx.out.all).mono ?_
        rintro e w4 ⟨rfl, t4, g4⟩
        replace hx := Lib.hid (hx.out.setA t4 g4)
        clear t4 g4
        obtain ⟨d0, d1, d2, d3, d4, d5, d6, d7⟩ := hr.out.row hx.out.below hlt
        by_cases hn : (k : Int) < n
        · go_wp2_with fail
          refine (rowOf_any _ _ _ _ _ _ _ _ _).mono ?_
          rintro e w5 ⟨rfl, g5⟩
          replace hx := Lib.hid (hx.out.on g5)
          clear d0 d1 d2 d3 d4 d5 d6 d7 g5
          go_wp2_with fail
          refine (row_any _ _ _ _ _ _ _ _ _ _ _ hx.out.a).mono ?_
          rintro e w6 ⟨rfl, t6, g6⟩
          replace hx := Lib.hid (hx.out.setB t6 g6)
          clear t6 g6
          go_wp2
          all_goals go_roundw
          case rel => exact ⟨k + 1, by omega, by go_num, by simpa only [rowsF, decide_eq_true hn, RowV.on, if_true, Bool.not_true, if_false, Bool.false_eq_true] using hx⟩
          case measure => simp [intOf]; omega
        · go_wp2_with fail
          refine (rowOf_any _ _ _ _ _ _ _ _ _).mono ?_
          rintro e w5 ⟨rfl, g5⟩
          replace hx := Lib.hid (hx.out.on g5)
          clear d0 d1 d2 d3 d4 d5 d6 d7 g5
          go_wp2_with fail
          refine (row_any _ _ _ _ _ _ _ _ _ _ _ hx.out.b).mono ?_
          rintro e w6 ⟨rfl, t6, g6⟩
          replace hx := Lib.hid (hx.out.setC t6 g6)
          clear t6 g6
          go_wp2
          all_goals go_roundw
          case rel => exact ⟨k + 1, by omega, by go_num, by simpa only [rowsF, (show decide ((k : Int) < n) = false from decide_eq_false (by omega)), RowV.on, if_true, Bool.not_false, if_false, Bool.false_eq_true] using hx⟩
          case measure => simp [intOf]; omega
      · obtain rfl : k = n0 := by omega
        clear hlt hk hr z1
        have hx0 := hx
        clear hx
        go_wp2_with fail
        go_loopw [11] (fun i wr => ∃ k2 : Nat, k2 ≤ n1 ∧ i = .int .i64 k2 ∧ Hid (Three w w.heap.size w1.heap.size w2.heap.size (outsF M (fun _ => true) (rowsF L (fun _ => true) zero k) k2) (outsF M (fun i => !decide ((i : Int) < n)) (rowsF L (fun i => decide ((i : Int) < n)) zero k) k2) (outsF M (fun i => decide ((i : Int) < n)) (rowsF L (fun i => !decide ((i : Int) < n)) zero k) k2) wr)) (fun i _ => n1 - (intOf i).toNat)
        case atStart => exact ⟨0, by omega, rfl, hx0⟩
        case round =>
          obtain ⟨j, hk, rfl, hx⟩ := hrel
          clear hx0
          by_cases hlt : j < n1
          · have hlt' : (j : Int) < n1 := by omega
            obtain ⟨a, rfl⟩ := ho.out.ptr (by omega)
            obtain ⟨d0, d1, d2, d3⟩ := ho.out.out hx.out.below hlt
            go_wp2_with fail
            refine (out_any _ _ _ _ _ _ _ hx.out.all).mono ?_
            rintro e w4 ⟨rfl, t4, g4⟩
            replace hx := Lib.hid (hx.out.setA t4 g4)
            clear t4 g4 d0 d1 d2 d3
            obtain ⟨d0, d1, d2, d3⟩ := ho.out.out hx.out.below hlt
            by_cases hn : (j : Int) < n
            · go_wp2_with fail
              refine (out_any _ _ _ _ _ _ _ hx.out.b).mono ?_
              rintro e w6 ⟨rfl, t6, g6⟩
              replace hx := Lib.hid (hx.out.setC t6 g6)
              clear d0 d1 d2 d3 t6 g6
              go_wp2
              all_goals go_roundw
              case rel => exact ⟨j + 1, by omega, by go_num, by simpa only [outsF, decide_eq_true hn, OutV.on, if_true, Bool.not_true, Bool.not_false, if_false, Bool.false_eq_true] using hx⟩
              case measure => simp [intOf]; omega
            · go_wp2_with fail
              refine (out_any _ _ _ _ _ _ _ hx.out.a).mono ?_
              rintro e w6 ⟨rfl, t6, g6⟩
              replace hx := Lib.hid (hx.out.setB t6 g6)
              clear d0 d1 d2 d3 t6 g6
              go_wp2
              all_goals go_roundw
              case rel => exact ⟨j + 1, by omega, by go_num, by simpa only [outsF, (show decide ((j : Int) < n) = false from decide_eq_false (by omega)), OutV.on, if_true, Bool.not_true, Bool.not_false, if_false, Bool.false_eq_true] using hx⟩
              case measure => simp [intOf]; omega
          · obtain rfl : j = n1 := by omega
            clear hlt hk ho
            have hp := Lib.hid (parts L M (fun i => decide ((i : Int) < n)) k j)
            generalize outsF M (fun _ => true) (rowsF L (fun _ => true) zero k) j = F at hx hp
            generalize outsF M (fun i => !decide ((i : Int) < n)) (rowsF L (fun i => decide ((i : Int) < n)) zero k) j = G at hx hp
            generalize outsF M (fun i => decide ((i : Int) < n)) (rowsF L (fun i => !decide ((i : Int) < n)) zero k) j = H at hx hp
            go_wp2_with fail
            refine (add_gen _ _ _ _ _ hx.out.b (reads_other hx.out.a hx.out.bc)).mono ?_
            rintro e w4 ⟨rfl, t4, g4⟩
            rw [hp.out.mix] at t4
            have hin := Lib.hid hp.out.pf
            replace hx := Lib.hid (hx.out.setC t4 g4)
            clear t4 g4 hp
            go_wp2_with fail
            refine (add_none _ _).mono ?_
            rintro e w5 ⟨rfl, rfl⟩
            go_wp2_with fail
            refine (textW _ F _ (says_any _ F _ hx.out.b hin.out (tab.out.below hx.out.below))).mono ?_
            rintro e w6 ⟨rfl, g6⟩
            replace hx := Lib.hid (hx.out.on g6)
            clear g6
            go_wp2_with fail
            refine (textW _ F _ (says_any _ F _ hx.out.all hin.out (tab.out.below hx.out.below))).mono ?_
            rintro e w7 ⟨rfl, g7⟩
            replace hx := Lib.hid (hx.out.on g7)
            clear g7
            go_wp2_with fail
            refine (rest_any _ F _ hx.out.all).mono ?_
            rintro e w8 ⟨rfl, m8, rfl⟩
            replace hx := Lib.hid (hx.out.on (below_drewN (Below.refl _ _) m8))
            go_wp2_with fail
            refine (add_gen _ _ F F _ hx.out.all reads_self).mono ?_
            rintro e w9 ⟨rfl, t9, g9⟩
            replace hx := Lib.hid (hx.out.setA t9 g9)
            clear t9 g9
            go_wp2_with fail
            refine (rest_any _ _ _ hx.out.all).mono ?_
            rintro e w10 ⟨rfl, m10, rfl⟩
            rw [twice hin.out 40 (by decide), twice hin.out 41 (by decide), twice hin.out 42 (by decide), twice hin.out 43 (by decide)]
            replace hx := Lib.hid (hx.out.on (below_drewN (Below.refl _ _) m10))
            go_wp2_with fail
            refine (Serv.awake_any _).mono ?_
            rintro e w11 ⟨rfl, g11⟩
            replace hx := Lib.hid (hx.out.on g11)
            clear g11
            go_wp2
            go_ret
            exact ⟨rfl, hx.out.below⟩
end Go.Proofs.YteejogoiikmlgaaGreatDoor.PartsLaw
