/-
  The document's answer of layer 7 (Class, Pad, Unpad) and of a byte as a text: the walks: what each returns, in the words of the plain laws of padding.
-/
import Derived.Test.YtojkoedkecnccaaDoorPadBase
namespace Go.Proofs.YtojkoedkecnccaaDoor.Pad
open Go.RowKit
set_option linter.unusedVariables false
set_option linter.unusedSimpArgs false

theorem conv1 (W : World) (b : Nat) (x : Int) (h0 : W.cell? ⟨b, 0, none⟩ = some (.int .u8 x)) :
    (convert 50 9 (.slice (some ⟨b, 0, none⟩) 1 1)).run Tryd.prog W = .ok (.string ⟨#[UInt8.ofNat x.toNat]⟩) W := by
  have h := run_convert_bytes_arg (P := Tryd.prog) W 50 5 Tryd.underlying50 Tryd.underlying5 b 0 1 1 [x] rfl (fun i hi => by
    match i, hi with
    | 0, _ => exact h0) 9 Tryd.underlying9
  rw [h]; rfl

def byteS (n : Int) : ByteArray := ⟨#[UInt8.ofNat (n % 256).toNat]⟩

set_option maxHeartbeats 400000 in
theorem byte_any (n : Int) (w : World) :
    Calls Tryd.prog 62 #[.int .i64 n] w fun e w' => e = .returned (.string (byteS n)) ∧ Below w.heap.size w w' := by
  have e4 : IntKind.u8.wrap n = n % 256 := IntKind.wrap_u8 n
  have kc := fun (W : World) b h0 => conv1 W b (n % 256) h0
  go_enter Tryd.func62, Tryd.ntmps62
  go_wp2
  go_ret
  exact ⟨rfl, (Below.refl _ _).alloc (Nat.le_refl _) _⟩

/-- which class a length has, by the document; 0: none -/
def clsR (n : Int) : Int := if 0 ≤ n ∧ n ≤ 1022 then cls n else 0

def St (n : Int) (k : Nat) : Prop := k = 0 ∨ (k = 1 ∧ ¬ (0 ≤ n ∧ n ≤ 30)) ∨ (k = 2 ∧ ¬ (0 ≤ n ∧ n ≤ 62)) ∨ (k = 3 ∧ ¬ (0 ≤ n ∧ n ≤ 126)) ∨ (k = 4 ∧ ¬ (0 ≤ n ∧ n ≤ 254)) ∨ (k = 5 ∧ ¬ (0 ≤ n ∧ n ≤ 510)) ∨ (k = 6 ∧ ¬ (0 ≤ n ∧ n ≤ 1022))

theorem St.at {n : Int} {k : Nat} (h : St n k) (c : Int) (hc : (k = 0 ∧ c = 32) ∨ (k = 1 ∧ c = 64) ∨ (k = 2 ∧ c = 128) ∨ (k = 3 ∧ c = 256) ∨ (k = 4 ∧ c = 512) ∨ (k = 5 ∧ c = 1024)) (h1 : 0 ≤ n) (h2 : n ≤ c - 2) : clsR n = c := by
  unfold St at h; unfold clsR cls; repeat' split
  all_goals omega

set_option maxRecDepth 100000 in
set_option maxHeartbeats 2000000 in
theorem classR_any (n : Int) (w : World) (h0 : -9223372036854775808 ≤ n) (h1 : n ≤ 9223372036854775807) :
    Calls Tryd.prog 61 #[.int .i64 n] w fun e w' => e = .returned (.int .i64 (clsR n)) ∧ Below w.heap.size w w' := by
  go_enter Tryd.func61, Tryd.ntmps61
  go_wp2
  go_loop [4] (fun v => ∃ k : Nat, v = .int .i64 k ∧ St n k) (fun v => 6 - (intOf v).toNat)
  case atStart => exact ⟨0, rfl, .inl rfl⟩
  case round =>
    obtain ⟨k, rfl, hk⟩ := hrel
    have hk' := Lib.hid hk
    have hk6 : k = 0 ∨ k = 1 ∨ k = 2 ∨ k = 3 ∨ k = 4 ∨ k = 5 ∨ k = 6 := by unfold St at hk; omega
    clear hk
    by_cases hn : 0 ≤ n
    · rcases hk6 with rfl | rfl | rfl | rfl | rfl | rfl | rfl
      · by_cases hc : n ≤ 30
        · have hz := Lib.hid (hk'.out.at 32 (by omega) hn (by omega))
          go_wp2
          go_ret
          exact ⟨by rw [hz.out]; rfl, (Below.refl _ _).alloc (Nat.le_refl _) _⟩
        · have hnx : Hid (St n 1) := by show St n 1; unfold St; omega
          go_wp2
          go_round
          case rel => exact ⟨1, rfl, hnx.out⟩
          case measure => simp [intOf]
      · by_cases hc : n ≤ 62
        · have hz := Lib.hid (hk'.out.at 64 (by omega) hn (by omega))
          go_wp2
          go_ret
          exact ⟨by rw [hz.out]; rfl, (Below.refl _ _).alloc (Nat.le_refl _) _⟩
        · have hnx : Hid (St n 2) := by show St n 2; unfold St; omega
          go_wp2
          go_round
          case rel => exact ⟨2, rfl, hnx.out⟩
          case measure => simp [intOf]
      · by_cases hc : n ≤ 126
        · have hz := Lib.hid (hk'.out.at 128 (by omega) hn (by omega))
          go_wp2
          go_ret
          exact ⟨by rw [hz.out]; rfl, (Below.refl _ _).alloc (Nat.le_refl _) _⟩
        · have hnx : Hid (St n 3) := by show St n 3; unfold St; omega
          go_wp2
          go_round
          case rel => exact ⟨3, rfl, hnx.out⟩
          case measure => simp [intOf]
      · by_cases hc : n ≤ 254
        · have hz := Lib.hid (hk'.out.at 256 (by omega) hn (by omega))
          go_wp2
          go_ret
          exact ⟨by rw [hz.out]; rfl, (Below.refl _ _).alloc (Nat.le_refl _) _⟩
        · have hnx : Hid (St n 4) := by show St n 4; unfold St; omega
          go_wp2
          go_round
          case rel => exact ⟨4, rfl, hnx.out⟩
          case measure => simp [intOf]
      · by_cases hc : n ≤ 510
        · have hz := Lib.hid (hk'.out.at 512 (by omega) hn (by omega))
          go_wp2
          go_ret
          exact ⟨by rw [hz.out]; rfl, (Below.refl _ _).alloc (Nat.le_refl _) _⟩
        · have hnx : Hid (St n 5) := by show St n 5; unfold St; omega
          go_wp2
          go_round
          case rel => exact ⟨5, rfl, hnx.out⟩
          case measure => simp [intOf]
      · by_cases hc : n ≤ 1022
        · have hz := Lib.hid (hk'.out.at 1024 (by omega) hn (by omega))
          go_wp2
          go_ret
          exact ⟨by rw [hz.out]; rfl, (Below.refl _ _).alloc (Nat.le_refl _) _⟩
        · have hnx : Hid (St n 6) := by show St n 6; unfold St; omega
          go_wp2
          go_round
          case rel => exact ⟨6, rfl, hnx.out⟩
          case measure => simp [intOf]
      · have hz : Hid (clsR n = 0) := by
          show clsR n = 0
          have h := hk'.out
          unfold St at h
          unfold clsR; rw [if_neg (by omega)]
        go_wp2
        go_ret
        exact ⟨by rw [hz.out]; rfl, (Below.refl _ _).alloc (Nat.le_refl _) _⟩
    · by_cases hk6' : k = 6
      · subst hk6'
        have hz : Hid (clsR n = 0) := by
          show clsR n = 0
          unfold clsR; rw [if_neg (by omega)]
        clear hk6
        go_wp2
        go_ret
        exact ⟨by rw [hz.out]; rfl, (Below.refl _ _).alloc (Nat.le_refl _) _⟩
      · have hnx : Hid (St n (k + 1)) := by show St n (k + 1); unfold St; omega
        have hk5 : (k : Int) < 6 := by omega
        clear hk6 hk6'
        go_wp2
        go_round
        case rel => exact ⟨k + 1, by go_num, hnx.out⟩
        case measure => simp [intOf]; omega

/-- a row of bytes, and so many bytes 0 -/
def zer (L : List UInt8) (j : Nat) : ByteArray := ⟨(L ++ List.replicate j 0).toArray⟩
theorem zer_size (L : List UInt8) (j : Nat) : (zer L j).size = L.length + j := by
  show (L ++ List.replicate j 0).toArray.size = _
  simp
theorem zer_more (L : List UInt8) (j : Nat) : zer L j ++ byteS 0 = zer L (j + 1) := by
  apply ba_ext
  unfold zer byteS
  rw [ByteArray.data_append]
  simp [List.replicate_succ']

def padHead (s : ByteArray) : List UInt8 := (s.size / 256).toUInt8 :: (s.size % 256).toUInt8 :: s.data.toList
theorem padHead_length (s : ByteArray) : (padHead s).length = s.size + 2 := by unfold padHead; simp only [List.length_cons]; rw [list_size]
theorem head_bytes (s : ByteArray) (h : s.size ≤ 1022) : byteS ((s.size : Int) / 256) ++ byteS ((s.size : Int) % 256) ++ s = zer (padHead s) 0 := by
  apply ba_ext
  unfold byteS zer padHead
  have q0 : (((s.size : Int) / 256) % 256).toNat = s.size / 256 := by omega
  have q1 : (((s.size : Int) % 256) % 256).toNat = s.size % 256 := by omega
  rw [q0, q1, ByteArray.data_append, ByteArray.data_append]
  simp
theorem padF_zer (s : ByteArray) : padF s = zer (padHead s) ((cls s.size).toNat - 2 - s.size) := by
  apply ba_ext
  rw [padF_list]
  unfold zer padHead
  simp

set_option maxRecDepth 100000 in
set_option maxHeartbeats 1000000 in
theorem padR_fits (s : ByteArray) (w : World) (hs : s.size ≤ 1022) :
    Calls Tryd.prog 35 #[.string s] w fun e w' => e = .returned (.tuple #[.string (padF s), .int .i64 0]) ∧ Below w.heap.size w w' := by
  have hc := fun x => classR_any s.size x (by omega) (by omega)
  have hr := cls_room s.size hs
  have hz : clsR s.size = cls s.size := by unfold clsR; rw [if_pos (by omega)]
  obtain ⟨c, hcc⟩ : ∃ c : Nat, cls s.size = (c : Int) := ⟨(cls s.size).toNat, by omega⟩
  have hfin : Hid (padF s = zer (padHead s) (c - 2 - s.size)) := by show _ = _; rw [padF_zer, hcc]; rfl
  rw [hz, hcc] at hc
  rw [hcc] at hr
  have hb1 := fun x => byte_any ((s.size : Int) / 256) x
  have hb2 := fun x => byte_any ((s.size : Int) % 256) x
  have hb0 := fun x => byte_any 0 x
  have hh := Lib.hid (head_bytes s hs)
  have hl := Lib.hid (padHead_length s)
  have z1 : (byteS ((s.size : Int) / 256)).size ≤ 1 := Nat.le_refl _
  have z2 : (byteS ((s.size : Int) % 256)).size ≤ 1 := Nat.le_refl _
  have z0 : (byteS 0).size ≤ 1 := Nat.le_refl _
  have hm0 := fun j => Lib.hid (zer_more (padHead s) j)
  generalize byteS ((s.size : Int) / 256) = B1 at hb1 hh z1
  generalize byteS ((s.size : Int) % 256) = B2 at hb2 hh z2
  generalize byteS 0 = B0 at hb0 z0 hm0
  generalize padHead s = L at hh hfin hl hm0
  generalize padF s = F at hfin
  clear hz hcc
  obtain ⟨hr1, hr2, hr3⟩ := hr
  have hcne : ((c : Int) == 0) = false := beq_eq_false_iff_ne.2 (by omega)
  go_enter Tryd.func35, Tryd.ntmps35
  go_wp2_with fail
  refine (hc _).mono ?_
  rintro e w1 ⟨rfl, g1⟩
  go_wp2_with fail
  refine (hb1 _).mono ?_
  rintro e w2 ⟨rfl, g2⟩
  have q2 : Below w.heap.size w w2 := g1.trans (g2.mono g1.size)
  clear g1 g2
  go_wp2_with fail
  refine (hb2 _).mono ?_
  rintro e w3 ⟨rfl, g3⟩
  have q3 : Below w.heap.size w w3 := q2.trans (g3.mono q2.size)
  clear q2 g3
  go_wp2_with fail
  have hh' := hh.out
  rw [hh']
  clear hh' hh
  go_loopw [5] (fun o wr => ∃ j : Nat, o = .string (zer L j) ∧ j ≤ c - 2 - s.size ∧ Below w.heap.size w wr) (fun o _ => c - Lib.strSize o)
  case atStart => exact ⟨0, rfl, Nat.zero_le _, q3⟩
  case round =>
    clear q3
    obtain ⟨j, rfl, hj, q⟩ := hrel
    have hsz := zer_size L j
    rw [hl.out] at hsz
    have hsz1 : (zer L j).size ≤ s.size + 2 + j := by omega
    have hsz2 : s.size + 2 + j ≤ (zer L j).size := by omega
    have hszn := zer_size L (j + 1)
    rw [hl.out] at hszn
    have hszH := Lib.hid hsz
    have hsznH := Lib.hid hszn
    have hmore := hm0 j
    clear hsz hszn
    by_cases hlt : s.size + 2 + j < c
    · have hlt' : ((zer L j).size : Int) < (c : Int) := by omega
      go_wp2_with (go_at_call 62; refine (hb0 _).mono ?_; rintro e w4 ⟨rfl, g4⟩)
      go_roundw
      case rel => exact ⟨j + 1, by rw [hmore.out], by omega, q.trans (g4.mono q.size)⟩
      case measure =>
        rw [hmore.out, Lib.strSize_string, Lib.strSize_string, hsznH.out, hszH.out]; omega
    · have hlt' : ¬ ((zer L j).size : Int) < (c : Int) := by omega
      have hjj : Hid (c - 2 - s.size = j) := by show _ = _; omega
      go_wp2
      go_ret2
      exact ⟨by rw [hfin.out, hjj.out]; rfl, q⟩

theorem padR_long (s : ByteArray) (w : World) (hs : 1022 < s.size) (hs2 : s.size ≤ 9223372036854775807) :
    Calls Tryd.prog 35 #[.string s] w fun e w' => e = .returned (.tuple #[.string ⟨#[]⟩, .int .i64 3]) ∧ Below w.heap.size w w' := by
  have hc := fun x => classR_any s.size x (by omega) (by omega)
  have hz : clsR s.size = 0 := by unfold clsR; rw [if_neg (by omega)]
  rw [hz] at hc
  clear hz
  go_enter Tryd.func35, Tryd.ntmps35
  go_wp2_with (go_at_call 61; refine (hc _).mono ?_; rintro e w1 ⟨rfl, g1⟩)
  go_ret2
  exact ⟨rfl, g1⟩

theorem padR_any (s : ByteArray) (w : World) (hs : s.size ≤ 140737488351232) :
    Calls Tryd.prog 35 #[.string s] w fun e w' => e = .returned (if s.size ≤ 1022 then .tuple #[.string (padF s), .int .i64 0] else .tuple #[.string ⟨#[]⟩, .int .i64 3]) ∧ Below w.heap.size w w' := by
  by_cases h : s.size ≤ 1022
  · rw [if_pos h]; exact padR_fits s w h
  · rw [if_neg h]; exact padR_long s w (by omega) (by omega)
end Go.Proofs.YtojkoedkecnccaaDoor.Pad
