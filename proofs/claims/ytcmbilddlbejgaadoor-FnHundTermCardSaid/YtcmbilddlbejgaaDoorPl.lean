/- Plain functions on integers that say what the Go functions compute; no program is in sight here. -/
import Derived.WalkKit
import Derived.Deep.QuietTactic
namespace Go.Proofs.YtcmbilddlbejgaaDoor
open Go.RowKit

/-- A number of the kind int. -/
def I64 (n : Int) : Prop := -9223372036854775808 ≤ n ∧ n ≤ 9223372036854775807

def inB (n low high : Int) : Bool := decide (low ≤ n) && decide (n ≤ high)

theorem inB_true {n low high : Int} (h1 : low ≤ n) (h2 : n ≤ high) : inB n low high = true := by simp [inB, h1, h2]
theorem inB_lo {n low high : Int} (h1 : n < low) : inB n low high = false := by simp [inB]; omega
theorem inB_hi {n low high : Int} (h1 : high < n) : inB n low high = false := by simp [inB]; omega
theorem inB_iff {n low high : Int} : inB n low high = true ↔ low ≤ n ∧ n ≤ high := by simp [inB]
theorem inB_not {n low high : Int} : inB n low high = false ↔ n < low ∨ high < n := by simp [inB]; omega

/-- Three doubled angular momenta can be coupled. -/
def triB (a b c : Int) : Bool :=
  inB a 0 24 && inB b 0 24 && inB c 0 24 && decide ((a + b + c) % 2 = 0) && decide (a ≤ b + c) && decide (b ≤ a + c) && decide (c ≤ a + b)

def absI (n : Int) : Int := if n < 0 then -n else n

theorem ret_int {k : IntKind} {a b : Int} (h : a = b) : Ending.returned (.int k a) = .returned (.int k b) := by rw [h]
theorem ret_bool {a b : Bool} (h : a = b) : Ending.returned (.bool a) = .returned (.bool b) := by rw [h]

/-- The numbers lo, lo + 2, .. : k of them. -/
def stepL (lo : Int) (k : Nat) : List Int := (List.range k).map (fun i : Nat => lo + 2 * (i : Int))

theorem stepL_length (lo : Int) (k : Nat) : (stepL lo k).length = k := by simp [stepL]
theorem stepL_succ (lo : Int) (k : Nat) : stepL lo (k + 1) = stepL lo k ++ [lo + 2 * (k : Int)] := by simp [stepL, List.range_succ]

/-- A slice of the call's own that holds these integers. -/
def Ints (w : World) (base : Nat) (v : Value) (xs : List Int) : Prop := w.ownsRow base 3 1 v xs.length (xs.map (Value.int .i64))

/-- The doubled angular momenta to which two ones couple. -/
def coupledOk (a b : Int) : Bool := inB a 0 24 && inB b 0 24 && decide (a + b ≤ 24)
def coupledL (a b : Int) : List Int := if coupledOk a b = true then stepL (absI (a - b)) (min a b + 1).toNat else []

/-- The hyperfine levels. -/
def hyperL (j i : Int) : List Int := if (inB j 0 12 && inB i 0 12) = true then coupledL j i else []

theorem own_kept {w w' : World} {base e size n : Nat} {v : Value} {xs : List Value} (h : w.ownsRow base e size v n xs) (hb : Below w.heap.size w w') : w'.ownsRow base e size v n xs := by
  obtain ⟨h1, h2⟩ := h
  refine ⟨h1, ?_⟩
  rcases h2 with h2 | ⟨g, cap, cur, hv, hg, hh, r⟩
  · exact Or.inl h2
  · refine Or.inr ⟨g, cap, cur, hv, hg, ?_, r⟩
    rw [hb.block g ?_]
    · exact hh
    · rcases Nat.lt_or_ge g w.heap.size with h | h
      · exact h
      · rw [Array.getElem?_eq_none h] at hh; cases hh

theorem own_base {w : World} {base base' e size n : Nat} {v : Value} {xs : List Value} (h : w.ownsRow base e size v n xs) (hb : base' ≤ base) : w.ownsRow base' e size v n xs := by
  obtain ⟨h1, h2⟩ := h
  refine ⟨h1, ?_⟩
  rcases h2 with h2 | ⟨g, cap, cur, hv, hg, r⟩
  · exact Or.inl h2
  · exact Or.inr ⟨g, cap, cur, hv, Nat.le_trans hb hg, r⟩

theorem own_blk {w : World} {base e size n : Nat} {v : Value} {xs : List Value} (h : w.ownsRow base e size v n xs) : ∀ k, v.ownBlock = some k → base ≤ k := by
  obtain ⟨h1, h2⟩ := h
  intro k hk
  rcases h2 with ⟨h2, _⟩ | ⟨g, cap, cur, hv, hg, hh, r⟩
  · subst h2; cases hk
  · subst hv; simp [Value.ownBlock] at hk; omega

/-- Behind an append of something that was laid in a new block. -/
theorem app_below {w wr w1 : World} {base e size n B : Nat} {v : Value} {xs : List Value} {o : Obj} (hnx : Below B w wr) (h : wr.ownsRow base e size v n xs) (hg : (wr.alloc o).grownBy w1 v.ownBlock) (hB : B ≤ base) (hs : B ≤ wr.heap.size) : Below B w w1 :=
  (hnx.alloc hs o).grown hg (by simp; omega) (fun k hk => Nat.le_trans hB (own_blk h k hk))

theorem Ints.kept {w w' : World} {base : Nat} {v : Value} {xs : List Int} (h : Ints w base v xs) (hb : Below w.heap.size w w') : Ints w' base v xs := own_kept h hb
theorem Ints.base {w : World} {base base' : Nat} {v : Value} {xs : List Int} (h : Ints w base v xs) (hb : base' ≤ base) : Ints w base' v xs := own_base h hb

theorem Ints.app {w : World} {base : Nat} {v : Value} {xs : List Int} {x : Int} (h : w.ownsRow base 3 1 v (xs.length + 1) (xs.map (Value.int .i64) ++ [Value.int .i64 x])) : Ints w base v (xs ++ [x]) := by
  unfold Ints; simpa using h

/-- The call returns a new slice of these integers, and nothing that was there has changed. -/
def RInts (w : World) (xs : List Int) (e : Ending) (w' : World) : Prop := ∃ v, e = .returned v ∧ Ints w' w.heap.size v xs ∧ Below w.heap.size w w'

theorem Ints.opened {w : World} {base : Nat} {v : Value} {xs : List Int} (h : Ints w base v xs) :
    ∃ a cap, v = .slice a xs.length cap ∧ xs.length ≤ maxLen ∧ (xs = [] ∨ ∃ g, a = some ⟨g, 0, none⟩ ∧ base ≤ g ∧ g < w.heap.size ∧ ∀ j, j < xs.length → w.cell? ⟨g, j, none⟩ = some (.int .i64 (xs.getD j 0))) := by
  have h0 := h
  unfold Ints at h
  rcases h.2 with ⟨h1, h2⟩ | ⟨g, cap, cur, hv, hg, hh, hn, hm, _⟩
  · exact ⟨none, 0, by rw [h1, h2], by unfold maxLen; omega, .inl (List.length_eq_zero_iff.1 h2)⟩
  · refine ⟨_, cap, hv, Nat.le_trans hn hm, .inr ⟨g, rfl, hg, ?_, fun j hj => ?_⟩⟩
    · rcases Nat.lt_or_ge g w.heap.size with h | h
      · exact h
      · rw [Array.getElem?_eq_none h] at hh; cases hh
    · rw [hv] at h
      rw [h.cellAt j (by omega)]
      simp [List.getElem?_map, List.getElem?_eq_getElem hj]

theorem ints_eq {xs ys : List Int} (h : xs.length = ys.length) (h2 : ∀ j, j < xs.length → xs.getD j 0 = ys.getD j 0) : xs = ys := by
  apply List.ext_getElem h
  intro j h3 h4
  have := h2 j h3
  simpa [List.getD_eq_getElem?_getD, List.getElem?_eq_getElem h3, List.getElem?_eq_getElem h4] using this

theorem Ints.empty (w : World) : Ints (w.alloc (.cells #[] 3)) w.heap.size (.slice (some ⟨w.heap.size, 0, none⟩) 0 0) [] := by
  refine ⟨rfl, .inr ⟨w.heap.size, 0, #[], rfl, Nat.le_refl _, ?_, Nat.le_refl _, Nat.zero_le _, rfl, rfl⟩⟩
  show (w.heap.push _)[w.heap.size]? = _
  rw [Array.getElem?_push, if_pos rfl]

theorem btr {w a b : World} (h : Below w.heap.size w a) (k : Below a.heap.size a b) : Below w.heap.size w b := h.trans (k.mono h.size)

/-- A block of the call's own with these cells. -/
def Blk (w : World) (g : Nat) (cs : Array Value) : Prop := ∃ t, w.heap[g]? = some (.cells cs t (0, 0))

theorem Blk.lt {w : World} {g : Nat} {cs : Array Value} (h : Blk w g cs) : g < w.heap.size := by
  obtain ⟨t, h⟩ := h
  rcases Nat.lt_or_ge g w.heap.size with h1 | h1
  · exact h1
  · rw [Array.getElem?_eq_none h1] at h; cases h

theorem blk_new {w : World} {g : Nat} {cs : Array Value} {t : TypeId} (hg : g = w.heap.size) : Blk (w.alloc (.cells cs t)) g cs := by
  subst hg
  refine ⟨t, ?_⟩
  show (w.heap.push _)[w.heap.size]? = _
  rw [Array.getElem?_push, if_pos rfl]
theorem blk_alloc {w : World} {g : Nat} {cs : Array Value} (h : Blk w g cs) (o : Obj) : Blk (w.alloc o) g cs := by
  have hl := h.lt
  obtain ⟨t, h⟩ := h
  exact ⟨t, by rw [Below.heap_alloc w o g hl]; exact h⟩
theorem blk_drew {w : World} {g : Nat} {cs : Array Value} (h : Blk w g cs) : Blk w.drew g cs := h
theorem blk_drewN {w : World} {g : Nat} {cs : Array Value} (h : Blk w g cs) (n : Nat) : Blk (w.drewN n) g cs := h
theorem blk_later {w w' : World} {g : Nat} {cs : Array Value} (hb : Below w.heap.size w w') (h : Blk w g cs) : Blk w' g cs := by
  have hl := h.lt
  obtain ⟨t, h⟩ := h
  exact ⟨t, by rw [hb.block g hl]; exact h⟩
theorem blk_set {w : World} {g : Nat} {cs : Array Value} (h : Blk w g cs) (i : Nat) (v : Value) : Blk (w.setCell ⟨g, i, none⟩ v) g (cs.setIfInBounds i v) := by
  obtain ⟨t, h⟩ := h
  refine ⟨t, ?_⟩
  simp [World.setCell, Array.getElem?_modify, h]
theorem blk_other {w : World} {g : Nat} {cs : Array Value} {p : Addr} {v : Value} (h : Blk w g cs) (hne : g ≠ p.block) : Blk (w.setCell p v) g cs := by
  obtain ⟨t, h⟩ := h
  exact ⟨t, by rw [Below.heap_setCell _ _ _ _ hne]; exact h⟩
theorem blk1 {w : World} {g : Nat} {x : Value} (h : Blk w g #[x]) : w.cell? ⟨g, 0, none⟩ = some x ∧ w.frozen? ⟨g, 0, none⟩ = false := by
  obtain ⟨t, h⟩ := h
  simp [World.cell?, World.frozen?, h]
theorem blk2 {w : World} {g : Nat} {x y : Value} (h : Blk w g #[x, y]) : w.cell? ⟨g, 0, none⟩ = some x ∧ w.cell? ⟨g, 1, none⟩ = some y ∧ w.frozen? ⟨g, 0, none⟩ = false ∧ w.frozen? ⟨g, 1, none⟩ = false := by
  obtain ⟨t, h⟩ := h
  simp [World.cell?, World.frozen?, h]
theorem blk3 {w : World} {g : Nat} {x y z : Value} (h : Blk w g #[x, y, z]) : w.cell? ⟨g, 0, none⟩ = some x ∧ w.cell? ⟨g, 1, none⟩ = some y ∧ w.cell? ⟨g, 2, none⟩ = some z ∧ w.frozen? ⟨g, 0, none⟩ = false ∧ w.frozen? ⟨g, 1, none⟩ = false ∧ w.frozen? ⟨g, 2, none⟩ = false := by
  obtain ⟨t, h⟩ := h
  simp [World.cell?, World.frozen?, h]

theorem blk4 {w : World} {g : Nat} {x y z u : Value} (h : Blk w g #[x, y, z, u]) : w.cell? ⟨g, 0, none⟩ = some x ∧ w.cell? ⟨g, 1, none⟩ = some y ∧ w.cell? ⟨g, 2, none⟩ = some z ∧ w.cell? ⟨g, 3, none⟩ = some u ∧ w.frozen? ⟨g, 0, none⟩ = false ∧ w.frozen? ⟨g, 1, none⟩ = false ∧ w.frozen? ⟨g, 2, none⟩ = false ∧ w.frozen? ⟨g, 3, none⟩ = false := by
  obtain ⟨t, h⟩ := h
  simp [World.cell?, World.frozen?, h]

theorem bl_alloc {a w : World} (h : Below a.heap.size a w) (o : Obj) : Below a.heap.size a (w.alloc o) := h.alloc h.size o
theorem bl_set {a w : World} (h : Below a.heap.size a w) {p : Addr} (hp : a.heap.size ≤ p.block) (u : Value) : Below a.heap.size a (w.setCell p u) := h.setCell hp u
theorem bl_drew {a w : World} (h : Below a.heap.size a w) : Below a.heap.size a w.drew := h.drew
theorem bl_drewN {a w : World} (h : Below a.heap.size a w) (n : Nat) : Below a.heap.size a (w.drewN n) := ⟨h.os, h.tape, h.output, h.size, h.block⟩
theorem bl_out {a b c : World} (h : Below a.heap.size a b) (k : Hid (Below b.heap.size b c)) : Below a.heap.size a c := btr h k.out

end Go.Proofs.YtcmbilddlbejgaaDoor
