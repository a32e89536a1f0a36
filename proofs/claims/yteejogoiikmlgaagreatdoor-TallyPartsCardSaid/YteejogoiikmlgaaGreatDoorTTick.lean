/-
  A tick, and a turn of nobody, on a server on which nobody lives: the walks.
-/
import Derived.Test.YteejogoiikmlgaaGreatDoorTServN
import Derived.LoopTactic
namespace Go.Proofs.YteejogoiikmlgaaGreatDoor.Serv
open Go.RowKit
set_option linter.unusedVariables false
set_option linter.unusedSimpArgs false
set_option linter.unnecessarySimpa false

theorem gate_same : gateCells.setIfInBounds 2 (.int .i64 1048576) = gateCells := by rfl

set_option maxHeartbeats 1000000 in
theorem bktTick (G : Nat) (w : World) (h : Blk G gateCells 169 w) :
    Calls Tryz.prog 108 #[.pointer (some ⟨G, 0, none⟩)] w fun e w' => e = .returned (.tuple #[]) ∧ Blk G gateCells 169 w' ∧ Only [G] w w' := by
  have c0 : w.cell? ⟨G, 0, none⟩ = some (.int .i64 1048576) := h.cell rfl
  have c1 : w.cell? ⟨G, 1, none⟩ = some (.int .i64 1048576) := h.cell rfl
  have c2 : w.cell? ⟨G, 2, none⟩ = some (.int .i64 1048576) := h.cell rfl
  have f2 := h.free 2
  have hs : Hid (Blk G gateCells 169 (w.drew.setCell ⟨G, 2, none⟩ (.int .i64 1048576))) := by
    have := (h.below (Below.refl _ _).drew).set 2 (.int .i64 1048576)
    rwa [gate_same] at this
  clear h
  go_enter Tryz.func108, Tryz.ntmps108
  go_wp2
  go_region
  all_goals go_wp2
  all_goals go_end0
  all_goals refine ⟨rfl, hs.out, ?_⟩
  all_goals repeat (first | exact Only.refl _ _ | refine Only.trans ?_ (Only.set _ _ _ _) | refine Only.trans ?_ (Only.drew _ _))

theorem gateTick (G : Nat) (w : World) (h : Blk G gateCells 169 w) :
    Calls Tryz.prog 81 #[.pointer (some ⟨G, 0, none⟩)] w fun e w' => e = .returned (.tuple #[]) ∧ Blk G gateCells 169 w' ∧ Only [G] w w' := by
  have hb := bktTick G w h
  clear h
  go_enter Tryz.func81, Tryz.ntmps81
  go_wp2_with fail
  refine hb.mono ?_
  rintro e w1 ⟨rfl, b1, o1⟩
  go_wp2
  go_end0
  exact ⟨rfl, b1, o1⟩

set_option maxRecDepth 100000 in
theorem srv_now (B M : Nat) (now n : Int) : Arr 82 (putV (srvF B M now) 81 (.int .i64 n)) = Arr 82 (srvF B M n) := by rfl

set_option maxRecDepth 100000 in
set_option maxHeartbeats 2000000 in
theorem srvTick (S : Nat) (now : Int) (own : List Nat) (w : World) (h : Srv S now w own) (hn : 0 ≤ now ∧ now ≤ 1000000) :
    Calls Tryz.prog 61 #[.pointer (some ⟨S, 0, none⟩)] w fun e w' => e = .returned (.tuple #[]) ∧ Srv S (now + 1) w' own ∧ Only own w w' := by
  obtain ⟨B, M, T, G, bS, tM, bT, bG, rfl, n1, n2, n3, n4, n5⟩ := h.some
  have hs : Blk S (Arr 82 (srvF B M (now + 1))) 134 (w.setCell ⟨S, 81, none⟩ (.int .i64 (now + 1))) := by
    have := bS.setF 81 (.int .i64 (now + 1))
    rwa [srv_now] at this
  have o1 := Only.set w S 81 (.int .i64 (now + 1))
  have tM1 := tM.only o1 (by simp; omega)
  have bT1 := bT.only o1 (by simp; omega)
  have bG1 := bG.only o1 (by simp; omega)
  have c81 : w.cell? ⟨S, 81, none⟩ = some (.int .i64 now) := bS.cellF 81 (by decide)
  have f81 := bS.free 81
  have s0 : Hid (Srv S (now + 1) (w.setCell ⟨S, 81, none⟩ (.int .i64 (now + 1))) [S, M, T, G]) := ⟨⟨B, M, T, G, hs, tM1, bT1, bG1, rfl, n1, n2, n3, n4, n5⟩⟩
  replace o1 : Hid (Only [S, M, T, G] w (w.setCell ⟨S, 81, none⟩ (.int .i64 (now + 1)))) := o1.mono (by simp)
  clear h bS tM bT bG hs tM1 bT1 bG1
  go_enter Tryz.func61, Tryz.ntmps61
  go_wp2
  go_loopw [13] (fun i wr => ∃ k : Nat, k ≤ 9 ∧ i = .int .i64 k ∧ Hid (Srv S (now + 1) wr [S, M, T, G]) ∧ Hid (Only [S, M, T, G] w wr)) (fun i _ => 9 - (intOf i).toNat)
  case atStart => exact ⟨0, Nat.zero_le _, rfl, s0, o1⟩
  case round =>
    obtain ⟨k, hk, rfl, hs, ho⟩ := hrel
    clear s0 o1 c81 f81
    by_cases hlt : k < 9
    · obtain ⟨B, M', T', G', bS, tM, bT, bG, e4, n1, n2, n3, n4, n5⟩ := hs.out.some
      obtain ⟨rfl, rfl, rfl⟩ : M' = M ∧ T' = T ∧ G' = G := by simpa [eq_comm] using e4
      have c80 : wr.cell? ⟨S, 80, none⟩ = some (.map (some M')) := bS.cellF 80 (by decide)
      have hlt' : (k : Int) < 9 := by omega
      clear e4
      by_cases h0 : k = 0
      · subst h0
        have hl := tM.look0
        have cT : wr.cell? ⟨T', 0, none⟩ = some (.pointer (some ⟨G', 0, none⟩)) := bT.cell rfl
        have hg := gateTick G' wr bG
        have keep : Hid (∀ w1, Blk G' gateCells 169 w1 → Only [G'] wr w1 → Srv S (now + 1) w1 [S, M', T', G']) :=
          fun w1 b1 o1 => ⟨⟨B, M', T', G', bS.only o1 (by simpa using n1), tM.only o1 (by simpa using n5), bT.only o1 (by simpa using n4), b1, rfl, n1, n2, n3, n4, n5⟩⟩
        clear bS tM bT bG n1 n2 n3 n4 n5
        go_wp2_with fail
        refine hg.mono ?_
        rintro e w1 ⟨rfl, b1, o1⟩
        have hs1 : Hid (Srv S (now + 1) w1 [S, M', T', G']) := keep.out w1 b1 o1
        have ho1 : Hid (Only [S, M', T', G'] w w1) := ho.out.trans (o1.mono (by simp))
        clear b1 o1 hg hl cT c80 hs ho keep
        go_wp2
        go_roundw
        case rel => exact ⟨1, by omega, by go_num, hs1, ho1⟩
        case measure => simp [intOf]
      · have hl := tM.lookk k (by omega) (by omega)
        clear bS tM bT bG n1 n2 n3 n4 n5
        go_wp2
        go_roundw
        case rel => exact ⟨k + 1, by omega, by go_num, hs, ho⟩
        case measure => simp [intOf]; omega
    · have hlt' : ¬ (k : Int) < 9 := by omega
      go_wp2
      go_end0
      exact ⟨rfl, hs.out, ho.out⟩

/-- nobody waits for a turn -/
theorem turn0 (S : Nat) (w : World) (c : w.cell? ⟨S, 69, none⟩ = some (.slice none 0 0)) :
    Calls Tryz.prog 109 #[.pointer (some ⟨S, 68, none⟩)] w fun e w' => e = .returned (.tuple #[.int .i64 0, .int .i64 0, .bool false]) ∧ w = w' := by
  go_enter Tryz.func109, Tryz.ntmps109
  go_wp2
  refine wp_loop_rounds 1 ?_
  rw [rounds_succ]
  go_wp2
  exact bodyPost_ret (v := .tuple #[.int .i64 0, .int .i64 0, .bool false]) (by simp [results, Tryz.results109, go_sem]) rfl ⟨rfl, rfl⟩

theorem next0 (S : Nat) (w : World) (c : w.cell? ⟨S, 69, none⟩ = some (.slice none 0 0)) (hS : S < w.heap.size) :
    Calls Tryz.prog 82 #[.pointer (some ⟨S, 68, none⟩)] w fun e w' => e = .returned (.tuple #[.int .i64 0, .agg #[.int .i64 0, .int .i64 0, .int .i64 0, .string ⟨#[]⟩, .int .i64 0], .bool false]) ∧ Below w.heap.size w w' := by
  have c' : (w.alloc (.cells #[.int .i64 0, .int .i64 0, .int .i64 0, .string ⟨#[]⟩, .int .i64 0] 182)).cell? ⟨S, 69, none⟩ = some (.slice none 0 0) :=
    (((Below.refl w.heap.size w).alloc (Nat.le_refl _) _).cell (p := ⟨S, 69, none⟩) hS).trans c
  have ht := turn0 S _ c'
  clear c c'
  go_enter Tryz.func82, Tryz.ntmps82
  go_wp2_with fail
  refine ht.mono ?_
  rintro e w1 ⟨rfl, rfl⟩
  go_wp2
  refine bodyPost_ret (v := .tuple #[.int .i64 0, .agg #[.int .i64 0, .int .i64 0, .int .i64 0, .string ⟨#[]⟩, .int .i64 0], .bool false]) (by simp [results, Tryz.results82, go_sem]) rfl ⟨rfl, ?_⟩
  repeat (first | exact Below.refl _ _ | apply below_drewN | apply Below.drew | refine Below.setCell ?_ (by simp) _ | refine Below.alloc ?_ (by simp) _)

set_option maxRecDepth 100000 in
set_option maxHeartbeats 2000000 in
theorem serve0 (S : Nat) (now : Int) (own : List Nat) (w : World) (h : Srv S now w own) :
    Calls Tryz.prog 63 #[.pointer (some ⟨S, 0, none⟩)] w fun e w' => e = .returned (.tuple #[.agg #[.int .i64 0, .int .i64 0, .int .i64 0, .string ⟨#[]⟩, .int .i64 0, .string ⟨#[]⟩], .bool false]) ∧ Below w.heap.size w w' := by
  obtain ⟨B, M, T, G, bS, tM, bT, bG, rfl, n1, n2, n3, n4, n5⟩ := h.some
  have bS1 := bS.below ((Below.refl _ _).alloc (Nat.le_refl _) (.cells #[.int .i64 0, .int .i64 0, .int .i64 0, .string ⟨#[]⟩, .int .i64 0, .string ⟨#[]⟩] 30))
  have hn := next0 S _ (bS1.cellF 69 (by decide)) bS1.lt
  clear h bS tM bT bG n1 n2 n3 n4 n5 bS1
  go_enter Tryz.func63, Tryz.ntmps63
  go_wp2_with fail
  refine hn.mono ?_
  rintro e w1 ⟨rfl, q1⟩
  have lt1 : w.heap.size < w1.heap.size := Nat.lt_of_lt_of_le (by simp) q1.size
  have p1 : Below w.heap.size w w1 := ((Below.refl _ _).alloc (Nat.le_refl _) _).trans (q1.mono (by simp))
  have bN : Blk w.heap.size #[.int .i64 0, .int .i64 0, .int .i64 0, .string ⟨#[]⟩, .int .i64 0, .string ⟨#[]⟩] 30 w1 := (Blk.new w #[.int .i64 0, .int .i64 0, .int .i64 0, .string ⟨#[]⟩, .int .i64 0, .string ⟨#[]⟩] 30).below q1
  have c0 : w1.cell? ⟨w.heap.size, 0, none⟩ = some (.int .i64 0) := bN.cell rfl
  have f0 := bN.free 0
  have c1 : w1.cell? ⟨w.heap.size, 1, none⟩ = some (.int .i64 0) := bN.cell rfl
  have f1 := bN.free 1
  have c2 : w1.cell? ⟨w.heap.size, 2, none⟩ = some (.int .i64 0) := bN.cell rfl
  have f2 := bN.free 2
  have c3 : w1.cell? ⟨w.heap.size, 3, none⟩ = some (.string ⟨#[]⟩) := bN.cell rfl
  have f3 := bN.free 3
  have c4 : w1.cell? ⟨w.heap.size, 4, none⟩ = some (.int .i64 0) := bN.cell rfl
  have f4 := bN.free 4
  have c5 : w1.cell? ⟨w.heap.size, 5, none⟩ = some (.string ⟨#[]⟩) := bN.cell rfl
  have f5 := bN.free 5
  have ne1 : w.heap.size ≠ w1.heap.size := Nat.ne_of_lt lt1
  have ne1' : w1.heap.size ≠ w.heap.size := Ne.symm ne1
  replace bN := Lib.hid bN
  clear hn
  clear q1
  go_wp2
  refine bodyPost_ret (v := .tuple #[.agg #[.int .i64 0, .int .i64 0, .int .i64 0, .string ⟨#[]⟩, .int .i64 0, .string ⟨#[]⟩], .bool false]) ?_ rfl ⟨rfl, ?_⟩
  · generalize hW : World.alloc _ _ = W
    have bF : Blk w.heap.size #[.int .i64 0, .int .i64 0, .int .i64 0, .string ⟨#[]⟩, .int .i64 0, .string ⟨#[]⟩] 30 W := by
      rw [← hW]
      exact ((((((bN.out.set 0 _).set 1 _).set 2 _).set 3 _).set 4 _).set 5 _).below ((Below.refl _ _).alloc (Nat.le_refl _) _)
    have d0 : W.cell? ⟨w.heap.size, 0, none⟩ = some (.int .i64 0) := bF.cell rfl
    have d1 : W.cell? ⟨w.heap.size, 1, none⟩ = some (.int .i64 0) := bF.cell rfl
    have d2 : W.cell? ⟨w.heap.size, 2, none⟩ = some (.int .i64 0) := bF.cell rfl
    have d3 : W.cell? ⟨w.heap.size, 3, none⟩ = some (.string ⟨#[]⟩) := bF.cell rfl
    have d4 : W.cell? ⟨w.heap.size, 4, none⟩ = some (.int .i64 0) := bF.cell rfl
    have d5 : W.cell? ⟨w.heap.size, 5, none⟩ = some (.string ⟨#[]⟩) := bF.cell rfl
    clear c0 c1 c2 c3 c4 c5 f0 f1 f2 f3 f4 f5 hW bF p1
    simp [results, Tryz.results63, go_sem, d0, d1, d2, d3, d4, d5]
  · clear c0 c1 c2 c3 c4 c5 f0 f1 f2 f3 f4 f5
    refine Below.alloc ?_ (by simp; omega) _
    iterate 6 refine Below.setCell ?_ (by simp) _
    exact p1
end Go.Proofs.YteejogoiikmlgaaGreatDoor.Serv
