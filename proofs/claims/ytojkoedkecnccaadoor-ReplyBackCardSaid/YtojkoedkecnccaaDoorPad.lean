/-
  pad: Most, Class, Pad and Unpad: the walks: what each returns for every argument (a text to be padded: shorter than 2^47 bytes).
-/
import Derived.Test.YtojkoedkecnccaaDoorProg
import Derived.Test.YtojkoedkecnccaaDoorShelf
import Derived.WalkKit
import Derived.Outline
import Derived.Below
import Derived.WalkSmall
import Derived.WalkMore
import Derived.Lib.Hide
import Derived.Deep.DeepCutAuto
import Derived.Deep.QuietTactic
import Derived.BigQuiet
import Derived.Deep.LoopGhost
import Derived.Deep.RegionWith
import Derived.IntWalk
import Derived.Deep.RegionHeld3
namespace Go.Proofs.YtojkoedkecnccaaDoor.Pad
open Go.RowKit
set_option linter.unusedVariables false
set_option linter.unusedSimpArgs false

/-- the class of a text of n bytes, n at most 1022 -/
def cls (n : Int) : Int := if n ≤ 30 then 32 else if n ≤ 62 then 64 else if n ≤ 126 then 128 else if n ≤ 254 then 256 else if n ≤ 510 then 512 else 1024
def classZ (n : Int) : Int × Int := if n < 0 then (0, 1) else if 1022 < n then (0, 3) else (cls n, 0)

def Okc (n c : Int) : Prop := (c = 32 ∨ (c = 64 ∧ 30 < n) ∨ (c = 128 ∧ 62 < n) ∨ (c = 256 ∧ 126 < n) ∨ (c = 512 ∧ 254 < n) ∨ (c = 1024 ∧ 510 < n))
theorem Okc.bd {n c : Int} (h : Okc n c) : 32 ≤ c ∧ c ≤ 1024 := by unfold Okc at h; omega
theorem Okc.ends {n c : Int} (h : Okc n c) (hn : n ≤ 1022) (h2 : n ≤ c - 2) : cls n = c := by unfold Okc at h; unfold cls; repeat' split; all_goals omega
theorem Okc.next {n c : Int} (h : Okc n c) (hn : n ≤ 1022) (h2 : ¬ n ≤ c - 2) : Okc n (c * 2) := by unfold Okc at h ⊢; omega

set_option maxHeartbeats 400000 in
theorem most_any (w : World) : Calls Tryd.prog 37 #[] w fun e w' => e = .returned (.int .i64 1022) ∧ w = w' := by
  go_enter Tryd.func37, Tryd.ntmps37
  go_wp2
  go_ret
  exact ⟨rfl, rfl⟩

set_option maxHeartbeats 400000 in
theorem class_any (n : Int) (w : World) (h0 : -9223372036854775808 ≤ n) (h1 : n ≤ 9223372036854775807) :
    Calls Tryd.prog 23 #[.int .i64 n] w fun e w' => e = .returned (.tuple #[.int .i64 (classZ n).1, .int .i64 (classZ n).2]) ∧ w = w' := by
  by_cases c1 : n < 0
  · have hz : Hid (classZ n = (0, 1)) := by show classZ n = _; unfold classZ; rw [if_pos c1]
    generalize classZ n = z at hz
    go_enter Tryd.func23, Tryd.ntmps23
    go_wp2
    go_step3
    go_wp2
    rw [Exit.noGoto_ret]
    go_ret2
    exact ⟨by rw [hz.out]; rfl, rfl⟩
  by_cases c2 : 1022 < n
  · have hz : Hid (classZ n = (0, 3)) := by show classZ n = _; unfold classZ; rw [if_neg c1, if_pos c2]
    generalize classZ n = z at hz
    go_enter Tryd.func23, Tryd.ntmps23
    go_wp2
    go_step3
    go_wp2
    rw [Exit.noGoto_ret]
    go_ret2
    exact ⟨by rw [hz.out]; rfl, rfl⟩
  · have hz : Hid (classZ n = (cls n, 0)) := by show classZ n = _; unfold classZ; rw [if_neg c1, if_neg c2]
    generalize classZ n = z at hz
    go_enter Tryd.func23, Tryd.ntmps23
    go_wp2
    go_step3
    go_wp2
    go_step3
    go_wp2
    go_loop [4] (fun v => ∃ c : Int, v = .int .i64 c ∧ Okc n c) (fun v => (2048 - intOf v).toNat)
    case atStart => exact ⟨32, rfl, .inl rfl⟩
    case round =>
      obtain ⟨c, rfl, hc⟩ := hrel
      have hbd := hc.bd
      obtain ⟨b1, b2⟩ := hbd
      have hc' := Lib.hid hc
      clear hc
      by_cases hg : n ≤ c - 2
      · have hcls : Hid (cls n = c) := hc'.out.ends (by omega) hg
        go_wp2
        go_ret2
        exact ⟨by rw [hz.out, hcls.out]; rfl, rfl⟩
      · have hnx := Lib.hid (hc'.out.next (by omega) hg)
        go_wp2
        go_round
        case rel => exact ⟨c * 2, rfl, hnx.out⟩
        case measure => simp [intOf]; omega

theorem bcell {W w1 : World} (hb : Below W.heap.size W w1) : (∀ b o, b < W.heap.size → w1.cell? ⟨b, o, none⟩ = W.cell? ⟨b, o, none⟩) ∧ (∀ b o, b < W.heap.size → w1.frozen? ⟨b, o, none⟩ = W.frozen? ⟨b, o, none⟩) :=
  ⟨fun b o h => hb.cell (p := ⟨b, o, none⟩) h, fun b o h => hb.frozen (p := ⟨b, o, none⟩) h⟩

theorem conv2 (W : World) (b : Nat) (x y : Int) (h0 : W.cell? ⟨b, 0, none⟩ = some (.int .u8 x)) (h1 : W.cell? ⟨b, 1, none⟩ = some (.int .u8 y)) :
    (convert 50 9 (.slice (some ⟨b, 0, none⟩) 2 2)).run Tryd.prog W = .ok (.string ⟨#[UInt8.ofNat x.toNat, UInt8.ofNat y.toNat]⟩) W := by
  have h := run_convert_bytes_arg (P := Tryd.prog) W 50 5 Tryd.underlying50 Tryd.underlying5 b 0 2 2 [x, y] rfl (fun i hi => by
    match i, hi with
    | 0, _ => exact h0
    | 1, _ => exact h1) 9 Tryd.underlying9
  rw [h]; rfl

theorem rep_zero (c : Nat) : Lib.repeatL [0] c = List.replicate c 0 := by
  induction c with
  | zero => rfl
  | succ c ih => simp [Lib.repeatL, ih, List.replicate_succ]

set_option maxRecDepth 100000 in
set_option maxHeartbeats 1000000 in
theorem pad_fits (s : ByteArray) (w : World) (hs : s.size ≤ 1022) :
    Calls Tryd.prog 22 #[.string s] w fun e w' => e = .returned (.tuple #[.string (⟨#[(s.size / 256).toUInt8, (s.size % 256).toUInt8]⟩ ++ s ++ ⟨(List.replicate ((cls s.size).toNat - 2 - s.size) 0).toArray⟩), .int .i64 0]) ∧ Below w.heap.size w w' := by
  have hc := fun x => class_any s.size x (by omega) (by omega)
  have hz : classZ s.size = (cls s.size, 0) := by unfold classZ; rw [if_neg (by omega), if_neg (by omega)]
  rw [hz] at hc
  have hcl : (s.size : Int) + 2 ≤ cls s.size ∧ cls s.size ≤ 1024 := by unfold cls; repeat' split; all_goals omega
  obtain ⟨m, hm⟩ : ∃ m : Nat, cls s.size = (m : Int) + 2 + s.size := ⟨(cls s.size - 2 - s.size).toNat, by omega⟩
  rw [hm] at hc hcl
  have hrep := fun x => Tryd.strings_Repeat ⟨#[0]⟩ m x (by omega) (by show 1 * m ≤ _; omega)
  have hsz : (ByteArray.mk (Lib.repeatL [0] m).toArray).size ≤ 1022 := by
    rw [rep_zero]; show (List.replicate m (0 : UInt8)).toArray.size ≤ 1022; simp; omega
  have hfin : Hid ((ByteArray.mk (List.replicate ((cls s.size).toNat - 2 - s.size) 0).toArray) = ByteArray.mk (Lib.repeatL [0] m).toArray) := by
    show _ = _
    rw [rep_zero, hm, show ((m : Int) + 2 + s.size).toNat - 2 - s.size = m by omega]
  generalize ByteArray.mk (Lib.repeatL [0] m).toArray = R at hrep hsz hfin
  generalize ByteArray.mk (List.replicate ((cls s.size).toNat - 2 - s.size) 0).toArray = R' at hfin
  clear hz hm
  go_enter Tryd.func22, Tryd.ntmps22
  go_wp2_with (go_at_call 23; refine (hc _).mono ?_; rintro e w' ⟨rfl, rfl⟩)
  have e1 : IntKind.i64.wrap ((m : Int) + 2 + s.size - 2) = (m : Int) + s.size := by rw [IntWalk.i64_in _ (by omega)]; omega
  have e2 : IntKind.i64.wrap ((m : Int) + s.size - s.size) = (m : Int) := by rw [IntWalk.i64_in _ (by omega)]; omega
  have e3 : IntKind.u8.wrap ((s.size : Int) / 256) = (s.size : Int) / 256 := by simp [IntKind.wrap, IntKind.signed, IntKind.bits]; omega
  have e4 : IntKind.u8.wrap (s.size : Int) = (s.size : Int) % 256 := by simp [IntKind.wrap, IntKind.signed, IntKind.bits]
  have e5 : IntKind.i64.wrap (m : Int) = (m : Int) := by rw [IntWalk.i64_in _ (by omega)]
  have kc := fun (W : World) b h0 h1 => conv2 W b ((s.size : Int) / 256) ((s.size : Int) % 256) h0 h1
  go_region_with (go_at_call 36; refine (hrep _).mono ?_; rintro e w' ⟨rfl, hb⟩; obtain ⟨hcc, hff⟩ := bcell hb)
  all_goals go_wp2
  all_goals go_ret2
  all_goals refine ⟨by rw [hfin.out]; rfl, ?_⟩
  all_goals first
    | exact (((Below.refl _ _).alloc (Nat.le_refl _) _).drew.trans (hb.mono (by simp)))
    | exact ((((Below.refl _ _).drew).trans (hb.mono (by simp))).alloc hb.size _)
    | exact ((((Below.refl _ _)).trans (hb.mono (by simp))).alloc hb.size _).drew

theorem pad_long (s : ByteArray) (w : World) (hs : 1022 < s.size) (hs2 : s.size ≤ 9223372036854775807) :
    Calls Tryd.prog 22 #[.string s] w fun e w' => e = .returned (.tuple #[.string ⟨#[]⟩, .int .i64 3]) ∧ Below w.heap.size w w' := by
  have hc := fun x => class_any s.size x (by omega) (by omega)
  have hz : classZ s.size = (0, 3) := by unfold classZ; rw [if_neg (by omega), if_pos (by omega)]
  rw [hz] at hc
  clear hz
  go_enter Tryd.func22, Tryd.ntmps22
  go_wp2_with (go_at_call 23; refine (hc _).mono ?_; rintro e w' ⟨rfl, rfl⟩)
  go_ret2
  exact ⟨rfl, Below.refl _ _⟩
end Go.Proofs.YtojkoedkecnccaaDoor.Pad
