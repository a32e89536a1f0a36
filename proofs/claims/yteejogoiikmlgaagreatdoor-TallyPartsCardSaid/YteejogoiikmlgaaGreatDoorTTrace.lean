/-
  trace.rows of a tick and of a turn: the walks.
-/
import Derived.Test.YteejogoiikmlgaaGreatDoorTTick
import Derived.Laws.AppendOwn
namespace Go.Proofs.YteejogoiikmlgaaGreatDoor.Serv
open Go.RowKit
set_option linter.unusedVariables false
set_option linter.unusedSimpArgs false
set_option linter.unnecessarySimpa false

def rowL (a act : Int) : List Value := [.int .i64 a, .int .i64 act, .int .i64 0, .int .i64 0, .int .i64 0, .string ⟨#[]⟩, .int .i64 0, .string ⟨#[]⟩]
theorem infoRow : (Tryz.prog.info? 32).map (fun i => (i.zero, i.size, i.bytes)) = some (some (.agg (rowL 0 0).toArray), 8, 80) := by kernel_rfl
theorem rowL_one (a act : Int) : ∀ u ∈ rowL a act, u.oneCell' = true := by
  intro u hu
  simp only [rowL, List.mem_cons, List.mem_nil_iff, or_false] at hu
  rcases hu with h | h | h | h | h | h | h | h <;> (subst h; rfl)
theorem Blk.list {B : Nat} {l : List Value} {t : TypeId} {W : World} (h : Blk B l.toArray t W) : ∀ (j : Nat) (u : Value), l[j]? = some u → W.cell? ((⟨B, 0, none⟩ : Addr).add j) = some u := by
  intro j u hu
  have := h.cell (i := j) (v := u) (by simpa using hu)
  by_cases hj : j = 0
  · subst hj; simpa [Addr.add] using this
  · simpa [Addr.add, hj] using this
theorem Srv.only {S : Nat} {now : Int} {own bs : List Nat} {W W' : World} (h : Srv S now W own) (hg : Only bs W W') (hr : ∀ x ∈ own, x ∉ bs) : Srv S now W' own := by
  obtain ⟨B, M, T, G, bS, tM, bT, bG, rfl, r⟩ := h.some
  exact ⟨⟨B, M, T, G, bS.only hg (hr _ (by simp)), tM.only hg (hr _ (by simp)), bT.only hg (hr _ (by simp)), bG.only hg (hr _ (by simp)), rfl, r⟩⟩
theorem Srv.lt {S : Nat} {now : Int} {own : List Nat} {W : World} (h : Srv S now W own) : ∀ x ∈ own, x < W.heap.size := by
  obtain ⟨B, M, T, G, bS, tM, bT, bG, rfl, r⟩ := h.some
  intro x hx
  simp at hx
  rcases hx with rfl | rfl | rfl | rfl
  · exact bS.lt
  · exact World.ownsMap.lt tM
  · exact bT.lt
  · exact bG.lt

set_option maxRecDepth 100000 in
set_option maxHeartbeats 2000000 in
theorem rowsTick (S : Nat) (now : Int) (own : List Nat) (a cn num : Int) (bs : ByteArray) (w : World) (h : Srv S now w own) (hn : 0 ≤ now ∧ now ≤ 1000000) :
    Calls Tryz.prog 52 #[.pointer (some ⟨S, 0, none⟩), .int .i64 a, .agg #[.int .i64 3, .int .i64 cn, .int .u64 num, .string bs]] w fun e w' => ∃ v, e = .returned v ∧ w'.ownsRow w.heap.size 32 8 v 1 (rowL a 4) ∧ Srv S (now + 1) w' own ∧ Only own w w' := by
  obtain ⟨i0, hi, hz0, hz1, hz2⟩ := info_parts infoRow
  have hl := h.lt
  have h1 := h.only (Only.alloc [] w (.cells #[.int .i64 3, .int .i64 cn, .int .u64 num, .string bs] 64)) (by simp)
  have ht := srvTick S now own _ h1 hn
  clear h h1
  replace hl := Lib.hid hl
  go_enter Tryz.func52, Tryz.ntmps52
  go_wp2_with fail
  refine ht.mono ?_
  rintro e w1 ⟨rfl, s1, o1⟩
  have q1 : Hid (Only own w w1) := (Only.alloc own w _).trans o1
  have z1 : w.heap.size + 1 ≤ w1.heap.size := by have := o1.size; simpa using this
  replace s1 := Lib.hid s1
  clear ht o1
  go_wp2_with (at_builtin; refine wpList_append_own _ rfl _ _ 87 rfl w.heap.size 32 i0 (.agg (rowL 0 0).toArray) 8 80 Tryz.underlying87 hi hz0 hz1 hz2 rfl (by decide) _ _ _ rfl (World.ownsRow_nil _ _ _ _) ⟨w1.heap.size, 0, none⟩ 1 1 (rowL a 4) rfl rfl ?c1 ?c2 ?c3 ?c4 ?c5 ?_)
  case c1 => exact Blk.list (Blk.new w1 _ _)
  case c2 => exact rowL_one a 4
  case c3 => decide
  case c4 => decide
  case c5 => simp; omega
  intro v w2 own2 g2 _
  have q2 : Only own w w2 := q1.out.trans ((Only.alloc own w1 _).trans ((⟨g2.os, g2.tape, g2.output, g2.size, fun i hi' _ => g2.block i hi' (by simp [Value.ownBlock])⟩ : Only [] _ _).mono (by simp)))
  have s2 : Srv S (now + 1) w2 own := (s1.out.only (Only.alloc [] w1 _) (by simp)).only (bs := []) ⟨g2.os, g2.tape, g2.output, g2.size, fun i hi' _ => g2.block i hi' (by simp [Value.ownBlock])⟩ (by simp)
  replace own2 := Lib.hid own2
  replace q2 := Lib.hid q2
  replace s2 := Lib.hid s2
  clear g2 q1 s1 z1 hl hi hz0 hz1 hz2
  go_wp2
  go_ret
  exact ⟨v, rfl, by simpa using own2.out, s2.out, q2.out⟩

set_option maxRecDepth 100000 in
set_option maxHeartbeats 2000000 in
theorem rowsServe (S : Nat) (now : Int) (own : List Nat) (a cn num : Int) (bs : ByteArray) (w : World) (h : Srv S now w own) :
    Calls Tryz.prog 52 #[.pointer (some ⟨S, 0, none⟩), .int .i64 a, .agg #[.int .i64 5, .int .i64 cn, .int .u64 num, .string bs]] w fun e w' => ∃ v, e = .returned v ∧ w'.ownsRow w.heap.size 32 8 v 1 (rowL a 3) ∧ Below w.heap.size w w' := by
  have h1 := h.only (Only.alloc [] w (.cells #[.int .i64 5, .int .i64 cn, .int .u64 num, .string bs] 64)) (by simp)
  have ht := serve0 S now own _ h1
  clear h h1
  go_enter Tryz.func52, Tryz.ntmps52
  go_wp2_with fail
  refine ht.mono ?_
  rintro e w1 ⟨rfl, p1⟩
  have q1 : Below w.heap.size w w1 := ((Below.refl _ _).alloc (Nat.le_refl _) _).trans (p1.mono (by simp))
  have z1 : w.heap.size ≤ w1.heap.size := q1.size
  replace q1 := Lib.hid q1
  clear ht p1
  go_wp2
  go_ret
  have hb := heap_alloc_new (w1.alloc (.cells #[.int .i64 0, .int .i64 0, .int .i64 0, .string ⟨#[]⟩, .int .i64 0, .string ⟨#[]⟩] 30)) (.cells (rowL a 3).toArray 32)
  rw [show (w1.alloc (.cells #[.int .i64 0, .int .i64 0, .int .i64 0, .string ⟨#[]⟩, .int .i64 0, .string ⟨#[]⟩] 30)).heap.size = w1.heap.size + 1 by simp] at hb
  exact ⟨_, rfl, ⟨rfl, Or.inr ⟨w1.heap.size + 1, 1, _, rfl, by omega, hb, Nat.le_refl _, by decide, rfl, rfl⟩⟩, (q1.out.alloc q1.out.size _).alloc (by simp; omega) _⟩
end Go.Proofs.YteejogoiikmlgaaGreatDoor.Serv
