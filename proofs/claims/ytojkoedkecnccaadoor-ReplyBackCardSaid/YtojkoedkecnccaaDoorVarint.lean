/-
  varint.Put and Take, and the document's answer of layer 1 (Byte, Put, Take): the walks: what each returns for every argument (bytes shorter than 2^47).
-/
import Derived.Test.YtojkoedkecnccaaDoorRef07
import Derived.OwnWalk
import Derived.Laws.OwnMore
namespace Go.Proofs.YtojkoedkecnccaaDoor.Varint
open Go.RowKit
set_option linter.unusedVariables false
set_option linter.unusedSimpArgs false

/-- a number's bytes -/
def vF : Nat → Nat → List UInt8
  | 0, _ => []
  | f + 1, n => if n < 128 then [n.toUInt8] else (n % 128 + 128).toUInt8 :: vF f (n / 128)
def vL (n : Nat) : List UInt8 := vF 10 n
def vB (n : Nat) : ByteArray := ⟨(vL n).toArray⟩

theorem vF_le (f : Nat) : ∀ n, (vF f n).length ≤ f := by
  induction f with
  | zero => intro n; exact Nat.le_refl _
  | succ f ih =>
    intro n
    simp only [vF]
    split
    · simp
    · simp only [List.length_cons]; have := ih (n / 128); omega
theorem vL_le (n : Nat) : (vL n).length ≤ 10 := vF_le 10 n
theorem vB_size (n : Nat) : (vB n).size = (vL n).length := by show (vL n).toArray.size = _; simp

theorem info8 : (Tryd.prog.info? 5).map (fun i => (i.zero, i.size, i.bytes)) = some (some (.int .u8 0), 1, 1) := by kernel_rfl

theorem bytes_back {w : World} {base n : Nat} {v : Value} {L : List UInt8} (h : w.ownsRow base 5 1 v n (Lib.byteCells L)) :
    (convert 50 9 v).run Tryd.prog w = .ok (.string ⟨L.toArray⟩) w := by
  have hl : L.length = n := by have := h.1; simp [Lib.byteCells] at this; exact this
  rcases h.2 with ⟨rfl, rfl⟩ | ⟨g, cap, cur, rfl, _⟩
  · obtain rfl : L = [] := List.eq_nil_of_length_eq_zero hl
    exact run_convert_bytes_nil w 50 5 Tryd.underlying50 Tryd.underlying5 0 0 9 Tryd.underlying9
  · subst hl
    refine run_convert_bytes_back w 50 9 5 ⟨g, 0, none⟩ cap L Tryd.underlying50 Tryd.underlying5 Tryd.underlying9 (fun j hj => ?_)
    exact h.cells (g := g) rfl j _ (by simp [Lib.byteCells, hj])

theorem or128 : ∀ a, a < 256 → a ||| 128 = a % 128 + 128 := by decide +kernel
theorem u8_or128' (n : Nat) : bits .or .u8 ((n : Int) % 256) 128 = ((n % 128 + 128 : Nat) : Int) := by
  have h := u8_or_nat (n % 256) 128 (by omega) (by omega)
  rw [or128 (n % 256) (by omega)] at h
  rw [show ((n : Int) % 256) = ((n % 256 : Nat) : Int) by omega, show (128 : Int) = ((128 : Nat) : Int) from rfl, h]
  congr 1; omega

theorem own_more {w' : World} {base : Nat} {v : Value} {L : List UInt8} {b : UInt8} {x : Int} (hx : x = (b.toNat : Int)) (h : w'.ownsRow base 5 1 v (L.length + 1) (Lib.byteCells L ++ [Value.int .u8 x])) :
    w'.ownsRow base 5 1 v (L ++ [b]).length (Lib.byteCells (L ++ [b])) := by
  subst hx
  have e : Lib.byteCells (L ++ [b]) = Lib.byteCells L ++ [Value.int .u8 b.toNat] := by simp [Lib.byteCells]
  rw [e, List.length_append]
  exact h

theorem below_grown {B : Nat} {a w w' : World} {v : Value} {e : TypeId} {size n : Nat} {xs : List Value} {o : Obj} (hb : Below B a w) (hB : B ≤ w.heap.size) (hown : w.ownsRow B e size v n xs) (hg : (w.alloc o).grownBy w' v.ownBlock) : Below B a w' :=
  (hb.alloc hB o).grown hg (by simp; omega) (fun k hk => (hown.lt k hk).1)

set_option maxRecDepth 100000 in
set_option maxHeartbeats 1000000 in
theorem put_any (n0 : Nat) (w : World) (hn : n0 < 18446744073709551616) :
    Calls Tryd.prog 40 #[.int .u64 n0] w fun e w' => e = .returned (.string (vB n0)) ∧ Below w.heap.size w w' := by
  obtain ⟨i0, hi, hz0, hz1, hz2⟩ := info_parts info8
  have hvB : Hid (vB n0 = ⟨(vF 10 n0).toArray⟩) := rfl
  have hn' : Hid (n0 < 128 ^ 10) := by show n0 < 128 ^ 10; omega
  have hn64 : n0 ≤ 18446744073709551615 := by omega
  generalize vB n0 = R at hvB
  clear hn
  go_enter Tryd.func40, Tryd.ntmps40
  go_wp2
  go_step3
  go_wp2
  go_step3
  go_wp2
  go_loopw [0, 3] (fun nv ov wr => ∃ (n f : Nat) (L : List UInt8), nv = .int .u64 n ∧ wr.ownsRow w.heap.size 5 1 ov L.length (Lib.byteCells L) ∧ Hid (n < 128 ^ f) ∧ 1 ≤ f ∧ L.length + f ≤ 10 ∧ n ≤ 18446744073709551615 ∧ Hid (L ++ vF f n = vF 10 n0) ∧ Below w.heap.size w wr) (fun nv _ _ => (intOf nv).toNat)
  case atStart => exact ⟨n0, 10, [], rfl, World.ownsRow_nil _ _ _ _, hn', by omega, Nat.le_refl _, hn64, rfl, Below.refl _ _⟩
  case round =>
    obtain ⟨n, f, L, rfl, hown, hf, hf1, hL, hn, hv, hb⟩ := hrel
    have e8 : IntKind.u8.wrap (n : Int) = (n : Int) % 256 := IntKind.wrap_u8 n
    have hbs := hb.size
    have hLm : L.length + 1 ≤ 11 := by omega
    by_cases hlt : n < 128
    · have hlt' : (n : Int) < 128 := by omega
      have hfin : Hid (R = ⟨(L ++ [n.toUInt8]).toArray⟩) := by
        show _ = _
        rw [hvB.out, ← hv.out]
        cases f with
        | zero => omega
        | succ f => simp only [vF]; rw [if_pos hlt]
      clear hv hf
      go_wp2_with (at_builtin; refine wpList_append_own _ rfl (.tmp 6) (.tmp 9) 50 rfl w.heap.size 5 i0 (.int .u8 0) 1 1 Tryd.underlying50 hi hz0 hz1 hz2 rfl (by decide) _ _ _ rfl (hown.alloc _) ⟨wr.heap.size, 0, none⟩ 1 1 [.int .u8 ((n : Int) % 256)] rfl rfl ?c1 ?c2 ?c3 ?c4 ?c5 ?_)
      case c1 => intro j u hj; match j, hj with | 0, hj => simp at hj; subst hj; simp [Addr.add]
      case c2 => intro u hu; simp at hu; subst hu; rfl
      case c3 => unfold maxLen; omega
      case c4 => omega
      case c5 => simp; omega
      intro v' w1 hown' hgrow _
      have hown2 := own_more (b := n.toUInt8) (by simp) hown'
      have hconv := bytes_back hown2
      have hb1 := below_grown hb hb.size hown hgrow
      clear hown' hgrow hown2
      go_wp2
      rw [Exit.noGoto_ret]
      go_ret
      exact ⟨by rw [hfin.out]; rfl, hb1⟩
    · have hlt' : ¬ (n : Int) < 128 := by omega
      cases f with
      | zero => omega
      | succ f =>
        have hf2 : Hid (n / 128 < 128 ^ f) := by show n / 128 < 128 ^ f; have := hf.out; rw [Nat.pow_succ] at this; omega
        have hv2 : Hid ((L ++ [(n % 128 + 128).toUInt8]) ++ vF f (n / 128) = vF 10 n0) := by
          show _ = _
          rw [← hv.out]
          simp only [vF]
          rw [if_neg hlt]
          simp
        have hf3 : 1 ≤ f := by
          have h := hf2.out
          cases f with
          | zero => simp at h; omega
          | succ f => omega
        have hor := u8_or128' n
        clear hv hf
        go_wp2_with (at_builtin; refine wpList_append_own _ rfl (.tmp 11) (.tmp 15) 50 rfl w.heap.size 5 i0 (.int .u8 0) 1 1 Tryd.underlying50 hi hz0 hz1 hz2 rfl (by decide) _ _ _ rfl (hown.alloc _) ⟨wr.heap.size, 0, none⟩ 1 1 [.int .u8 ((n % 128 + 128 : Nat) : Int)] rfl rfl ?d1 ?d2 ?d3 ?d4 ?d5 ?_)
        case d2 => first | rfl | (intro u hu; simp at hu; subst hu; rfl)
        case d3 => unfold maxLen; omega
        case d4 => omega
        case d5 => omega
        intro v' w1 hown' hgrow _
        have hown2 := own_more (b := (n % 128 + 128).toUInt8) (by simp; omega) hown'
        have hb1 := below_grown hb hb.size hown hgrow
        clear hown' hgrow
        go_wp2
        go_roundw
        case rel => exact ⟨n / 128, f, _, by go_num, hown2, hf2, hf3, by simp; omega, by omega, hv2, hb1⟩
        case measure => simp [intOf]; omega
end Go.Proofs.YtojkoedkecnccaaDoor.Varint
