/-
  Slices of rows, and of outputs, among the arguments: their cells.
-/
import Derived.Test.YteejogoiikmlgaaGreatDoorTRowOpen
import Derived.Deep.Slices
import Derived.Deep.Fields
import Derived.ChangeSame
import Derived.Below
import Derived.Carry
namespace Go.Proofs.YteejogoiikmlgaaGreatDoor.Rows49
open Go.ChangeShapes Go.WideShapes Go.RowKit Go.Deep
set_option linter.unusedVariables false
set_option linter.unnecessarySimpa false
set_option linter.unusedSimpArgs false

/-- A row. -/
structure RowV where
  a : Int
  act : Int
  cn : Int
  ow : Int
  kd : Int
  bd : ByteArray
  er : Int
  rp : ByteArray
/-- An output. -/
structure OutV where
  a : Int
  c : Int
  b : ByteArray
  cl : Bool
def RowV.vals (r : RowV) : Array Value := #[.int .i64 r.a, .int .i64 r.act, .int .i64 r.cn, .int .i64 r.ow, .int .i64 r.kd, .string r.bd, .int .i64 r.er, .string r.rp]
def OutV.vals (r : OutV) : Array Value := #[.int .i64 r.a, .int .i64 r.c, .string r.b, .bool r.cl]
def RowV.Fit (r : RowV) : Prop := RowOpen.Fit r.a r.act r.cn r.ow r.kd r.er r.bd r.rp
def OutV.Fit (r : OutV) : Prop := RowOpen.FitO r.a r.c r.b

/-- A slice of n structs of k cells, whose cells are 'c i'. -/
def SliceAt (k : Nat) (v : Value) (w : World) (n : Nat) (c : Nat → Array Value) : Prop :=
  (v = .slice none 0 0 ∧ n = 0) ∨ ∃ (a : Addr) (cap : Nat), v = .slice (some a) n cap ∧ n ≤ cap ∧ cap ≤ maxLen ∧ ∀ i, i < n → (c i).size = k ∧ ∀ (j : Nat) (x : Value), (c i)[j]? = some x → w.cell? (a.add (i * k + j)) = some x

theorem SliceAt.below {k : Nat} {v : Value} {w w' : World} {n : Nat} {c : Nat → Array Value} (h : SliceAt k v w n c) {B : Nat} (hb : Below B w w') (hB : w.heap.size ≤ B) : SliceAt k v w' n c := by
  rcases h with h | ⟨a, cap, rfl, h1, h2, h4⟩
  · exact .inl h
  · refine .inr ⟨a, cap, rfl, h1, h2, fun i hi => ⟨(h4 i hi).1, fun j x hx => ?_⟩⟩
    have h5 := (h4 i hi).2 j x hx
    exact (hb.cell (Nat.lt_of_lt_of_le (World.block_lt_of_cell? _ _ h5) hB)).trans h5

theorem SliceAt.ptr {k : Nat} {x : Option Addr} {len cap n : Nat} {w : World} {c : Nat → Array Value} (h : SliceAt k (.slice x len cap) w n c) (hn : 0 < n) : ∃ a, x = some a := by
  rcases h with ⟨_, h0⟩ | ⟨a, cap', he, _⟩
  · omega
  · injection he with h1 _ _
    exact ⟨a, h1⟩
theorem SliceAt.cell {k : Nat} {a : Addr} {len cap n : Nat} {w wr : World} {c : Nat → Array Value} (h : SliceAt k (.slice (some a) len cap) w n c) (hb : Below w.heap.size w wr) {i : Nat} (hi : i < n) {j : Nat} {x : Value} (hx : (c i)[j]? = some x) :
    wr.cell? ((a.add (i * k)).add j) = some x := by
  rcases h with ⟨h0, _⟩ | ⟨a', cap', he, _, _, h4⟩
  · injection h0 with h1 _ _
    cases h1
  · injection he with h1 _ _
    injection h1 with h1
    subst h1
    have h5 := (h4 i hi).2 j x hx
    rw [Go.Deep.add_add]
    exact (hb.cell (World.block_lt_of_cell? _ _ h5)).trans h5
theorem SliceAt.row {a : Addr} {len cap n : Nat} {w wr : World} {L : Nat → RowV} (h : SliceAt 8 (.slice (some a) len cap) w n (fun i => (L i).vals)) (hb : Below w.heap.size w wr) {i : Nat} (hi : i < n) :
    wr.cell? (a.add (i * 8)) = some (.int .i64 (L i).a) ∧ wr.cell? ⟨(a.add (i * 8)).block, (a.add (i * 8)).off + 1, none⟩ = some (.int .i64 (L i).act) ∧ wr.cell? ⟨(a.add (i * 8)).block, (a.add (i * 8)).off + 2, none⟩ = some (.int .i64 (L i).cn) ∧
    wr.cell? ⟨(a.add (i * 8)).block, (a.add (i * 8)).off + 3, none⟩ = some (.int .i64 (L i).ow) ∧ wr.cell? ⟨(a.add (i * 8)).block, (a.add (i * 8)).off + 4, none⟩ = some (.int .i64 (L i).kd) ∧ wr.cell? ⟨(a.add (i * 8)).block, (a.add (i * 8)).off + 5, none⟩ = some (.string (L i).bd) ∧
    wr.cell? ⟨(a.add (i * 8)).block, (a.add (i * 8)).off + 6, none⟩ = some (.int .i64 (L i).er) ∧ wr.cell? ⟨(a.add (i * 8)).block, (a.add (i * 8)).off + 7, none⟩ = some (.string (L i).rp) :=
  ⟨h.cell hb hi (j := 0) rfl, h.cell hb hi (j := 1) rfl, h.cell hb hi (j := 2) rfl, h.cell hb hi (j := 3) rfl, h.cell hb hi (j := 4) rfl, h.cell hb hi (j := 5) rfl, h.cell hb hi (j := 6) rfl, h.cell hb hi (j := 7) rfl⟩
theorem SliceAt.out {a : Addr} {len cap n : Nat} {w wr : World} {L : Nat → OutV} (h : SliceAt 4 (.slice (some a) len cap) w n (fun i => (L i).vals)) (hb : Below w.heap.size w wr) {i : Nat} (hi : i < n) :
    wr.cell? (a.add (i * 4)) = some (.int .i64 (L i).a) ∧ wr.cell? ⟨(a.add (i * 4)).block, (a.add (i * 4)).off + 1, none⟩ = some (.int .i64 (L i).c) ∧ wr.cell? ⟨(a.add (i * 4)).block, (a.add (i * 4)).off + 2, none⟩ = some (.string (L i).b) ∧
    wr.cell? ⟨(a.add (i * 4)).block, (a.add (i * 4)).off + 3, none⟩ = some (.bool (L i).cl) :=
  ⟨h.cell hb hi (j := 0) rfl, h.cell hb hi (j := 1) rfl, h.cell hb hi (j := 2) rfl, h.cell hb hi (j := 3) rfl⟩

theorem cellsBool : Tryz.prog.cellsOf 4 = 1 := by kernel_rfl

set_option maxRecDepth 100000 in
set_option maxHeartbeats 1000000 in
theorem cells_row {H : Type} {enc : TypeId × Value → H} {w : World} {base : Nat} {sp : Nat → Bool} {held : Bool} {cs : List Value} {m : Nat} {x : DataW H × List MemPlace} (hsz : cs.length = 8)
    (hf : DataW.trod enc Tryz.prog w base sp held m 36 cs = some x) : ∃ r : RowV, cs = r.vals.toList ∧ r.Fit := by
  match cs, hsz with
  | [c0, c1, c2, c3, c4, c5, c6, c7], _ =>
  obtain ⟨xs, n, _, hx, _, hlen, hat⟩ := DataW.trod_struct Tryz.underlying36 hf
  match xs, hlen with
  | [y0, y1, y2], _ =>
    have h0 := hat 0 _ rfl
    have h1 := hat 1 _ rfl
    have h2 := hat 2 _ rfl
    simp [RowOpen.cellsInt, RowOpen.cellsNote] at h0 h1 h2
    obtain ⟨ns, n', _, hy, _, hlen', hat'⟩ := DataW.trod_struct Tryz.underlying34 h2
    match ns, hlen' with
    | [z0, z1, z2, z3, z4, z5], _ =>
      have k0 := hat' 0 _ rfl
      have k1 := hat' 1 _ rfl
      have k2 := hat' 2 _ rfl
      have k3 := hat' 3 _ rfl
      have k4 := hat' 4 _ rfl
      have k5 := hat' 5 _ rfl
      simp [RowOpen.cellsInt, RowOpen.cellsStr, RowOpen.cellsErr] at k0 k1 k2 k3 k4 k5
      obtain ⟨a, e0, rfl, w0⟩ := DataW.trod_int Tryz.underlying3 h0
      obtain ⟨act, e1, rfl, w1⟩ := DataW.trod_int Tryz.underlying3 h1
      obtain ⟨cn, e2, rfl, w2⟩ := DataW.trod_int Tryz.underlying3 k0
      obtain ⟨ow, e3, rfl, w3⟩ := DataW.trod_int Tryz.underlying3 k1
      obtain ⟨kd, e4, rfl, w4⟩ := DataW.trod_int Tryz.underlying3 k2
      obtain ⟨bd, e5, rfl, w5⟩ := DataW.trod_string Tryz.underlying9 k3
      obtain ⟨er, e6, rfl, w6⟩ := DataW.trod_int Tryz.underlying28 k4
      obtain ⟨rp, e7, rfl, w7⟩ := DataW.trod_string Tryz.underlying9 k5
      simp at e0 e1 e2 e3 e4 e5 e6 e7
      subst e0 e1 e2 e3 e4 e5 e6 e7
      exact ⟨⟨a, act, cn, ow, kd, bd, er, rp⟩, rfl, w0, w1, w2, w3, w4, w6, w5, w7⟩

set_option maxRecDepth 100000 in
set_option maxHeartbeats 1000000 in
theorem cells_out {H : Type} {enc : TypeId × Value → H} {w : World} {base : Nat} {sp : Nat → Bool} {held : Bool} {cs : List Value} {m : Nat} {x : DataW H × List MemPlace} (hsz : cs.length = 4)
    (hf : DataW.trod enc Tryz.prog w base sp held m 39 cs = some x) : ∃ r : OutV, cs = r.vals.toList ∧ r.Fit := by
  match cs, hsz with
  | [c0, c1, c2, c3], _ =>
  obtain ⟨xs, n, _, hx, _, hlen, hat⟩ := DataW.trod_struct Tryz.underlying39 hf
  match xs, hlen with
  | [y0, y1, y2, y3], _ =>
    have h0 := hat 0 _ rfl
    have h1 := hat 1 _ rfl
    have h2 := hat 2 _ rfl
    have h3 := hat 3 _ rfl
    simp [RowOpen.cellsInt, RowOpen.cellsStr, cellsBool] at h0 h1 h2 h3
    obtain ⟨a, e0, rfl, w0⟩ := DataW.trod_int Tryz.underlying3 h0
    obtain ⟨c, e1, rfl, w1⟩ := DataW.trod_int Tryz.underlying3 h1
    obtain ⟨b, e2, rfl, w2⟩ := DataW.trod_string Tryz.underlying9 h2
    obtain ⟨cl, e3, rfl⟩ := DataW.trod_bool Tryz.underlying4 h3
    simp at e0 e1 e2 e3
    subst e0 e1 e2 e3
    exact ⟨⟨a, c, b, cl⟩, rfl, w0, w1, w2⟩

set_option maxRecDepth 100000 in
set_option maxHeartbeats 1000000 in
theorem open_elems {H : Type} {enc : TypeId × Value → H} {w : World} {base : Nat} {sp : Nat → Bool} {held : Bool} {v : Value} {d : DataW H} {ps : List MemPlace} {t e k : Nat} {α : Type} (vals : α → Array Value) (Fit : α → Prop) (dflt : α)
    (ht : Tryz.prog.underlying t = some (.slice e)) (hk : Tryz.prog.cellsOf e = k) (hk0 : 0 < k)
    (he : ∀ (cs : List Value) (m : Nat) (x : DataW H × List MemPlace), cs.length = k → DataW.trod enc Tryz.prog w base sp held m e cs = some x → ∃ r : α, cs = (vals r).toList ∧ Fit r)
    {x0 : Option Addr} {len cap : Nat} (hv : v = .slice x0 len cap)
    (hd : DataW.Trod enc Tryz.prog w base sp held t v d ps) : ∃ (L : Nat → α), SliceAt k v w len (fun i => vals (L i)) ∧ ∀ i, i < len → Fit (L i) := by
  subst hv
  obtain ⟨fuel, hf⟩ := hd
  rcases Go.Deep.open_slice ht hf with ⟨hcs, hx⟩ | ⟨a, len', cap', m, n, D, Pl, hcs, hb, hl, hm, hmm, hx, hel⟩
  · simp [Value.cells] at hcs
    obtain ⟨rfl, rfl, rfl⟩ := hcs
    exact ⟨fun _ => dflt, .inl ⟨rfl, rfl⟩, fun i hi => by omega⟩
  · simp [Value.cells] at hcs
    obtain ⟨rfl, rfl, rfl⟩ := hcs
    rw [hk] at hel
    have hle : len ≤ m := by rw [hmm]; split <;> omega
    have hg : ∀ i, ∃ r : α, i < len → Fit r ∧ w.cells? base (a.add (i * k)) k = some (vals r).toList := by
      intro i
      by_cases hi : i < len
      · obtain ⟨cs', hc, ht'⟩ := hel i (by omega)
        obtain ⟨_, hcl, hat⟩ := World.cells?_some hc
        obtain ⟨r, rfl, hr⟩ := he cs' n _ hcl ht'
        exact ⟨r, fun _ => ⟨hr, hc⟩⟩
      · exact ⟨dflt, fun h => absurd h hi⟩
    refine ⟨fun i => Classical.choose (hg i), ?_, fun i hi => (Classical.choose_spec (hg i) hi).1⟩
    refine .inr ⟨a, cap, rfl, hl, hm, fun i hi => ?_⟩
    · obtain ⟨_, hcl, hat⟩ := World.cells?_some (Classical.choose_spec (hg i) hi).2
      have hs : (vals (Classical.choose (hg i))).size = k := by simpa using hcl
      refine ⟨hs, fun j x hx => ?_⟩
      have hj : j < k := hs ▸ (Array.getElem?_eq_some_iff.1 hx).1
      have := hat j hj
      rw [← Go.Deep.add_add, this, Array.getElem?_toList, hx]
end Go.Proofs.YteejogoiikmlgaaGreatDoor.Rows49
