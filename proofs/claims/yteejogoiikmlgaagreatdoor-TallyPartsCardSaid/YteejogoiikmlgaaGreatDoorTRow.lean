/-
  tally: a row, an output: the walks.
-/
import Derived.Test.YteejogoiikmlgaaGreatDoorTTallyB
import Derived.Maps.AppendAt
import Derived.OwnWalk
import Derived.Deep.AppendLies
namespace Go.Proofs.YteejogoiikmlgaaGreatDoor.Tally
open Go.RowKit
set_option linter.unusedVariables false
set_option linter.unusedSimpArgs false

theorem grow_set (w : World) (b i : Nat) (v : Value) : w.grownBy (w.setCell ⟨b, i, none⟩ v) (some b) := ⟨rfl, rfl, rfl, by simp, fun k _ hne => Below.heap_setCell _ _ _ _ (fun e => hne (by rw [e]))⟩
theorem grow_drew (w : World) (row : Option Nat) : w.grownBy w.drew row := ⟨rfl, rfl, rfl, Nat.le_refl _, fun _ _ _ => rfl⟩

/-- one more is counted at a number's place, if it has one -/
def bump (f : Nat → Int) (base : Nat) (lo hi k : Int) : Nat → Int := if withinB k lo hi then put f (base + k.toNat) (IntKind.i64.wrap (f (base + k.toNat) + 1)) else f

theorem add_place (B : Nat) (f : Nat → Int) (base : Nat) (lo hi k : Int) (w : World) (h : Tal B f w) (hb : ∀ k : Int, withinB k lo hi = true → base + k.toNat < 44) :
    Calls Tryz.prog 22 #[place B base lo hi k, .int .i64 1] w fun e w' => e = .returned (.tuple #[]) ∧ Tal B (bump f base lo hi k) w' ∧ w.grownBy w' (some B) := by
  unfold place bump
  cases hk : withinB k lo hi with
  | false => exact (add_nil 1 w).mono fun _ _ ⟨he, hw⟩ => ⟨he, hw ▸ h, hw ▸ World.grownBy.refl _ _⟩
  | true => exact (add_some B _ _ 1 _ w (h.cell _ (hb k hk)) (h.free _) rfl).mono fun _ _ ⟨he, hw⟩ => ⟨he, hw ▸ h.put _ _, hw ▸ grow_set _ _ _ _⟩
theorem add_fix (B : Nat) (f : Nat → Int) (i : Nat) (y : Int) (w : World) (h : Tal B f w) (hi : i < 44) :
    Calls Tryz.prog 26 #[.pointer (some ⟨B, i, none⟩), .int .i64 y] w fun e w' => e = .returned (.int .i64 (IntKind.i64.wrap (f i + y))) ∧ Tal B (put f i (IntKind.i64.wrap (f i + y))) w' ∧ w.grownBy w' (some B) :=
  (add64 B i _ y _ w (h.cell i hi) (h.free _) rfl).mono fun _ _ ⟨he, hw⟩ => ⟨he, hw ▸ h.put _ _, hw ▸ grow_set _ _ _ _⟩

/-- a row, as a value -/
def rowV (at' act cn ow kd : Int) (bd : ByteArray) (er : Int) (rp : ByteArray) : Value := .agg #[.int .i64 at', .int .i64 act, .int .i64 cn, .int .i64 ow, .int .i64 kd, .string bd, .int .i64 er, .string rp]
/-- what is counted behind a row -/
def rowF (f : Nat → Int) (act ow kd er : Int) : Nat → Int :=
  if act = 1 then bump (bump f 0 1 9 kd) 10 1 20 er else if act = 2 then bump f 31 0 8 ow else if act = 3 then put f 40 (IntKind.i64.wrap (f 40 + 1)) else if act = 4 then put f 41 (IntKind.i64.wrap (f 41 + 1)) else f

theorem row_nil (at' act cn ow kd : Int) (bd : ByteArray) (er : Int) (rp : ByteArray) (w : World) :
    Calls Tryz.prog 8 #[.pointer none, .agg #[.int .i64 at', .int .i64 act, .int .i64 cn, .int .i64 ow, .int .i64 kd, .string bd, .int .i64 er, .string rp]] w fun e w' => e = .returned (.tuple #[]) ∧ Below w.heap.size w w' := by
  go_enter Tryz.func8, Tryz.ntmps8
  go_wp2
  exact bodyPost_ret (v := .tuple #[]) (by simp [results, Tryz.results8, go_sem]) rfl ⟨rfl, (Below.refl _ _).alloc (Nat.le_refl _) _⟩

theorem row_other (B : Nat) (f : Nat → Int) (at' act cn ow kd : Int) (bd : ByteArray) (er : Int) (rp : ByteArray) (w : World) (h : Tal B f w) (h1 : act ≠ 1) (h2 : act ≠ 2) (h3 : act ≠ 3) (h4 : act ≠ 4) :
    Calls Tryz.prog 8 #[.pointer (some ⟨B, 0, none⟩), .agg #[.int .i64 at', .int .i64 act, .int .i64 cn, .int .i64 ow, .int .i64 kd, .string bd, .int .i64 er, .string rp]] w fun e w' => e = .returned (.tuple #[]) ∧ Tal B (f) w' ∧ w.grownBy w' (some B) := by
  have k1 : (act == 1) = false := beq_eq_false_iff_ne.2 h1
  have k2 : (act == 2) = false := beq_eq_false_iff_ne.2 h2
  have k3 : (act == 3) = false := beq_eq_false_iff_ne.2 h3
  have k4 : (act == 4) = false := beq_eq_false_iff_ne.2 h4
  clear h1 h2 h3 h4
  go_enter Tryz.func8, Tryz.ntmps8
  go_wp2
  go_end0
  exact ⟨rfl, h.grown (World.grownBy_alloc _ _ none) (by simp), World.grownBy_alloc _ _ _⟩

theorem row_3 (B : Nat) (f : Nat → Int) (at' cn ow kd : Int) (bd : ByteArray) (er : Int) (rp : ByteArray) (w : World) (h : Tal B f w) :
    Calls Tryz.prog 8 #[.pointer (some ⟨B, 0, none⟩), .agg #[.int .i64 at', .int .i64 3, .int .i64 cn, .int .i64 ow, .int .i64 kd, .string bd, .int .i64 er, .string rp]] w fun e w' => e = .returned (.tuple #[]) ∧ Tal B (put f 40 (IntKind.i64.wrap (f 40 + 1))) w' ∧ w.grownBy w' (some B) := by
  have ht := Lib.hid (h.grown (World.grownBy_alloc w (.cells #[.int .i64 at', .int .i64 3, .int .i64 cn, .int .i64 ow, .int .i64 kd, .string bd, .int .i64 er, .string rp] 32) none) (by simp))
  clear h
  go_enter Tryz.func8, Tryz.ntmps8
  go_wp2_with fail
  refine (add_fix B f 40 1 _ ht.out (by decide)).mono ?_
  rintro e w1 ⟨rfl, t1, g1⟩
  go_wp2
  go_end0
  exact ⟨rfl, t1, (World.grownBy_alloc _ _ _).trans g1⟩

theorem row_4 (B : Nat) (f : Nat → Int) (at' cn ow kd : Int) (bd : ByteArray) (er : Int) (rp : ByteArray) (w : World) (h : Tal B f w) :
    Calls Tryz.prog 8 #[.pointer (some ⟨B, 0, none⟩), .agg #[.int .i64 at', .int .i64 4, .int .i64 cn, .int .i64 ow, .int .i64 kd, .string bd, .int .i64 er, .string rp]] w fun e w' => e = .returned (.tuple #[]) ∧ Tal B (put f 41 (IntKind.i64.wrap (f 41 + 1))) w' ∧ w.grownBy w' (some B) := by
  have ht := Lib.hid (h.grown (World.grownBy_alloc w (.cells #[.int .i64 at', .int .i64 4, .int .i64 cn, .int .i64 ow, .int .i64 kd, .string bd, .int .i64 er, .string rp] 32) none) (by simp))
  clear h
  go_enter Tryz.func8, Tryz.ntmps8
  go_wp2_with fail
  refine (add_fix B f 41 1 _ ht.out (by decide)).mono ?_
  rintro e w1 ⟨rfl, t1, g1⟩
  go_wp2
  go_end0
  exact ⟨rfl, t1, (World.grownBy_alloc _ _ _).trans g1⟩

theorem row_2 (B : Nat) (f : Nat → Int) (at' cn ow kd : Int) (bd : ByteArray) (er : Int) (rp : ByteArray) (w : World) (h : Tal B f w) :
    Calls Tryz.prog 8 #[.pointer (some ⟨B, 0, none⟩), .agg #[.int .i64 at', .int .i64 2, .int .i64 cn, .int .i64 ow, .int .i64 kd, .string bd, .int .i64 er, .string rp]] w fun e w' => e = .returned (.tuple #[]) ∧ Tal B (bump f 31 0 8 ow) w' ∧ w.grownBy w' (some B) := by
  have ht := Lib.hid (h.grown (World.grownBy_alloc w (.cells #[.int .i64 at', .int .i64 2, .int .i64 cn, .int .i64 ow, .int .i64 kd, .string bd, .int .i64 er, .string rp] 32) none) (by simp))
  clear h
  have hp := fun x => owner_any B ow x
  have ha := fun x h => add_place B f 31 0 8 ow x h owner_fits
  generalize place B 31 0 8 ow = p at hp ha
  generalize bump f 31 0 8 ow = g at ha
  go_enter Tryz.func8, Tryz.ntmps8
  go_wp2_with fail
  refine (hp _).mono ?_
  rintro e w1 ⟨rfl, rfl⟩
  go_wp2_with fail
  refine (ha _ ht.out).mono ?_
  rintro e w2 ⟨rfl, t2, g2⟩
  go_wp2
  go_end0
  exact ⟨rfl, t2, (World.grownBy_alloc _ _ _).trans g2⟩

theorem row_1 (B : Nat) (f : Nat → Int) (at' cn ow kd : Int) (bd : ByteArray) (er : Int) (rp : ByteArray) (w : World) (h : Tal B f w) :
    Calls Tryz.prog 8 #[.pointer (some ⟨B, 0, none⟩), .agg #[.int .i64 at', .int .i64 1, .int .i64 cn, .int .i64 ow, .int .i64 kd, .string bd, .int .i64 er, .string rp]] w fun e w' => e = .returned (.tuple #[]) ∧ Tal B (bump (bump f 0 1 9 kd) 10 1 20 er) w' ∧ w.grownBy w' (some B) := by
  have ht := Lib.hid (h.grown (World.grownBy_alloc w (.cells #[.int .i64 at', .int .i64 1, .int .i64 cn, .int .i64 ow, .int .i64 kd, .string bd, .int .i64 er, .string rp] 32) none) (by simp))
  have hne : w.heap.size ≠ B := Nat.ne_of_gt h.lt
  clear h
  have hp := fun x => kind_any B kd x
  have ha := fun x h => add_place B f 0 1 9 kd x h kind_fits
  generalize bump f 0 1 9 kd = g at ha
  have hp2 := fun x => error_any B er x
  have ha2 := fun x h => add_place B g 10 1 20 er x h error_fits
  generalize place B 0 1 9 kd = p at hp ha
  generalize place B 10 1 20 er = q at hp2 ha2
  generalize bump g 10 1 20 er = g2 at ha2
  go_enter Tryz.func8, Tryz.ntmps8
  go_wp2_with fail
  refine (hp _).mono ?_
  rintro e w1 ⟨rfl, rfl⟩
  go_wp2_with fail
  refine (ha _ ht.out).mono ?_
  rintro e w2 ⟨rfl, t2, g2'⟩
  have c6 : w2.cell? ⟨w.heap.size, 6, none⟩ = some (.int .i64 er) := g2'.cell (by simp [go_sem]) (by simpa using hne)
  have q2 := (World.grownBy_alloc w (.cells #[.int .i64 at', .int .i64 1, .int .i64 cn, .int .i64 ow, .int .i64 kd, .string bd, .int .i64 er, .string rp] 32) (some B)).trans g2'
  clear g2' ht
  go_wp2_with fail
  refine (hp2 _).mono ?_
  rintro e w3 ⟨rfl, rfl⟩
  go_wp2_with fail
  refine (ha2 _ t2).mono ?_
  rintro e w4 ⟨rfl, t4, g4⟩
  go_wp2
  go_end0
  exact ⟨rfl, t4, q2.trans g4⟩

theorem row_any (B : Nat) (f : Nat → Int) (at' act cn ow kd : Int) (bd : ByteArray) (er : Int) (rp : ByteArray) (w : World) (h : Tal B f w) :
    Calls Tryz.prog 8 #[.pointer (some ⟨B, 0, none⟩), .agg #[.int .i64 at', .int .i64 act, .int .i64 cn, .int .i64 ow, .int .i64 kd, .string bd, .int .i64 er, .string rp]] w fun e w' => e = .returned (.tuple #[]) ∧ Tal B (rowF f act ow kd er) w' ∧ w.grownBy w' (some B) := by
  unfold rowF
  by_cases h1 : act = 1
  · subst h1; rw [if_pos rfl]; exact row_1 B f at' cn ow kd bd er rp w h
  · rw [if_neg h1]
    by_cases h2 : act = 2
    · subst h2; rw [if_pos rfl]; exact row_2 B f at' cn ow kd bd er rp w h
    · rw [if_neg h2]
      by_cases h3 : act = 3
      · subst h3; rw [if_pos rfl]; exact row_3 B f at' cn ow kd bd er rp w h
      · rw [if_neg h3]
        by_cases h4 : act = 4
        · subst h4; rw [if_pos rfl]; exact row_4 B f at' cn ow kd bd er rp w h
        · rw [if_neg h4]; exact row_other B f at' act cn ow kd bd er rp w h h1 h2 h3 h4

/-- an output, as its cells -/
theorem out_nil (at' cn : Int) (by' : ByteArray) (cl : Bool) (w : World) :
    Calls Tryz.prog 10 #[.pointer none, .agg #[.int .i64 at', .int .i64 cn, .string by', .bool cl]] w fun e w' => e = .returned (.tuple #[]) ∧ Below w.heap.size w w' := by
  go_enter Tryz.func10, Tryz.ntmps10
  go_wp2
  go_end0
  exact ⟨rfl, (Below.refl _ _).alloc (Nat.le_refl _) _⟩
/-- what is counted behind an output -/
def outF (f : Nat → Int) (n : Nat) (cl : Bool) : Nat → Int := if cl then put f 43 (IntKind.i64.wrap (f 43 + 1)) else put f 42 (IntKind.i64.wrap (f 42 + n))
theorem out_any (B : Nat) (f : Nat → Int) (at' cn : Int) (by' : ByteArray) (cl : Bool) (w : World) (h : Tal B f w) :
    Calls Tryz.prog 10 #[.pointer (some ⟨B, 0, none⟩), .agg #[.int .i64 at', .int .i64 cn, .string by', .bool cl]] w fun e w' => e = .returned (.tuple #[]) ∧ Tal B (outF f by'.size cl) w' ∧ w.grownBy w' (some B) := by
  have ht := Lib.hid (h.grown (World.grownBy_alloc w (.cells #[.int .i64 at', .int .i64 cn, .string by', .bool cl] 39) none) (by simp))
  have hb := Lib.hid h.lt
  clear h
  cases cl with
  | true =>
    go_enter Tryz.func10, Tryz.ntmps10
    go_wp2_with fail
    refine (add_fix B f 43 1 _ ht.out (by decide)).mono ?_
    rintro e w1 ⟨rfl, t1, g1⟩
    go_wp2
    go_end0
    exact ⟨rfl, t1, (World.grownBy_alloc _ _ _).trans g1⟩
  | false =>
    go_enter Tryz.func10, Tryz.ntmps10
    go_wp2_with fail
    go_region_with (go_at_call 26; refine (add_fix B f 42 _ _ (ht.out.below (Below.refl _ _).drew) (by decide)).mono ?_; rintro e w1 ⟨rfl, t1, g1⟩)
    go_wp2
    go_end0
    exact ⟨rfl, t1, ((World.grownBy_alloc w _ _).trans (grow_drew _ _)).trans g1⟩

theorem addT_nil (p : Value) (w : World) : Calls Tryz.prog 18 #[.pointer none, p] w fun e w' => e = .returned (.tuple #[]) ∧ w = w' := by
  go_enter Tryz.func18, Tryz.ntmps18
  go_wp2
  exact bodyPost_ret (v := .tuple #[]) (by simp [results, Tryz.results18, go_sem]) rfl ⟨rfl, rfl⟩
end Go.Proofs.YteejogoiikmlgaaGreatDoor.Tally
