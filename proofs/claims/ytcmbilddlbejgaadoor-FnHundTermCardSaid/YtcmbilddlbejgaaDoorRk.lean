/- What the walks that read a code share. -/
import Derived.Test.YtcmbilddlbejgaaDoorR
namespace Go.Proofs.YtcmbilddlbejgaaDoor
open Go.RowKit

theorem on_refl (a : World) (R : Nat) : a.grownBy a (some R) := ⟨rfl, rfl, rfl, Nat.le_refl _, fun _ _ _ => rfl⟩
theorem on_trans {a b c : World} {R : Nat} (h : a.grownBy b (some R)) (g : b.grownBy c (some R)) : a.grownBy c (some R) :=
  ⟨g.os.trans h.os, g.tape.trans h.tape, g.output.trans h.output, Nat.le_trans h.size g.size, fun k hk hne => (g.block k (Nat.lt_of_lt_of_le hk h.size) hne).trans (h.block k hk hne)⟩
theorem on_out {a b c : World} {R : Nat} (h : a.grownBy b (some R)) (k : Hid (b.grownBy c (some R))) : a.grownBy c (some R) := on_trans h k.out
theorem on_below {a b c : World} {R : Nat} (h : a.grownBy b (some R)) (k : Hid (Below b.heap.size b c)) : a.grownBy c (some R) :=
  on_trans h ⟨k.out.os, k.out.tape, k.out.output, k.out.size, fun i hi _ => k.out.block i hi⟩
theorem on_alloc {a w : World} {R : Nat} (h : a.grownBy w (some R)) (o : Obj) : a.grownBy (w.alloc o) (some R) :=
  ⟨h.os, h.tape, h.output, Nat.le_trans h.size (by simp), fun i hi hne => (Below.heap_alloc w o i (Nat.lt_of_lt_of_le hi h.size)).trans (h.block i hi hne)⟩
theorem on_drew {a w : World} {R : Nat} (h : a.grownBy w (some R)) : a.grownBy w.drew (some R) := ⟨h.os, h.tape, h.output, h.size, h.block⟩
theorem on_drewN {a w : World} {R : Nat} (h : a.grownBy w (some R)) (n : Nat) : a.grownBy (w.drewN n) (some R) := ⟨h.os, h.tape, h.output, h.size, h.block⟩
theorem on_set {a w : World} {R : Nat} (h : a.grownBy w (some R)) {p : Addr} (hp : a.heap.size ≤ p.block) (u : Value) : a.grownBy (w.setCell p u) (some R) :=
  ⟨h.os, h.tape, h.output, by simpa [World.setCell] using h.size, fun i hi hne => (Below.heap_setCell w p u i (by omega)).trans (h.block i hi hne)⟩
theorem blk_only {w w' : World} {g R : Nat} {cs : Array Value} (hg : w.grownBy w' (some R)) (hne : g ≠ R) (h : Blk w g cs) : Blk w' g cs := by
  have hl := h.lt
  obtain ⟨t, h⟩ := h
  exact ⟨t, by rw [hg.block g hl (fun e => hne (by injection e))]; exact h⟩
theorem rd_later {w w' : World} {R p : Nat} (h : Rd w R p) (hb : Below w.heap.size w w') : Rd w' R p := by
  obtain ⟨a, len, cap, hR, h1, h2⟩ := h
  have hlt : R < w.heap.size := by
    rcases Nat.lt_or_ge R w.heap.size with h | h
    · exact h
    · rw [Array.getElem?_eq_none h] at hR; cases hR
  refine ⟨a, len, cap, by rw [hb.block R hlt]; exact hR, h1, fun hp => ?_⟩
  obtain ⟨b, off, e1, e2, e4⟩ := h2 hp
  refine ⟨b, off, e1, e2, fun i hi => ?_⟩
  obtain ⟨z, hz, hz2⟩ := e4 i hi
  exact ⟨z, by rw [hb.cell (p := ⟨b, off + i, none⟩) (Nat.lt_trans e2 hlt)]; exact hz, hz2⟩
theorem rd_set {w : World} {R p : Nat} (h : Rd w R p) {q : Addr} {v : Value} (hq : R < q.block) : Rd (w.setCell q v) R p := by
  obtain ⟨a, len, cap, hR, h1, h2⟩ := h
  refine ⟨a, len, cap, by rw [Below.heap_setCell _ _ _ _ (Nat.ne_of_lt hq)]; exact hR, h1, fun hp => ?_⟩
  obtain ⟨b, off, e1, e2, e4⟩ := h2 hp
  refine ⟨b, off, e1, e2, fun i hi => ?_⟩
  obtain ⟨z, hz, hz2⟩ := e4 i hi
  refine ⟨z, ?_, hz2⟩
  rw [← hz]
  exact World.cell?_of_block (w := w) (Below.heap_setCell _ _ _ _ (Nat.ne_of_lt (Nat.lt_trans e2 hq)))
theorem rd_drew {w : World} {R p : Nat} (h : Rd w R p) : Rd w.drew R p := h
theorem Rd.lt {w : World} {R p : Nat} (h : Rd w R p) : R < w.heap.size := by
  obtain ⟨a, len, cap, hR, _⟩ := h
  rcases Nat.lt_or_ge R w.heap.size with h | h
  · exact h
  · rw [Array.getElem?_eq_none h] at hR; cases hR

theorem rd_alloc {w : World} {R p : Nat} (h : Rd w R p) (o : Obj) : Rd (w.alloc o) R p := by
  obtain ⟨a, len, cap, hR, h1, h2⟩ := h
  have hlt : R < w.heap.size := by
    rcases Nat.lt_or_ge R w.heap.size with h | h
    · exact h
    · rw [Array.getElem?_eq_none h] at hR; cases hR
  refine ⟨a, len, cap, by rw [Below.heap_alloc w o R hlt]; exact hR, h1, fun hp => ?_⟩
  obtain ⟨b, off, e1, e2, e4⟩ := h2 hp
  refine ⟨b, off, e1, e2, fun i hi => ?_⟩
  obtain ⟨z, hz, hz2⟩ := e4 i hi
  exact ⟨z, by rw [World.cell?_alloc_past _ _ _ (Nat.lt_trans e2 hlt)]; exact hz, hz2⟩

theorem bl_only {w a b : World} {R : Nat} (h : Below w.heap.size w a) (g : Hid (a.grownBy b (some R))) (hR : w.heap.size ≤ R) : Below w.heap.size w b :=
  h.grown g.out h.size (fun k hk => by cases hk; exact hR)

theorem code_alloc {w : World} {a : Option Addr} {len cap : Nat} (h : Code w a len cap) (o : Obj) : Code (w.alloc o) a len cap := by
  refine ⟨h.1, fun hp => ?_⟩
  obtain ⟨b, off, ha, hb, hc⟩ := h.2 hp
  refine ⟨b, off, ha, by simp; omega, fun i hi => ?_⟩
  obtain ⟨z, hz, hz2⟩ := hc i hi
  exact ⟨z, by rw [World.cell?_alloc_past _ _ _ hb]; exact hz, hz2⟩

theorem code_later {w w' : World} {a : Option Addr} {len cap : Nat} (h : Code w a len cap) (hb : Below w.heap.size w w') : Code w' a len cap := by
  refine ⟨h.1, fun hp => ?_⟩
  obtain ⟨b, off, ha, hl, hc⟩ := h.2 hp
  refine ⟨b, off, ha, Nat.lt_of_lt_of_le hl hb.size, fun i hi => ?_⟩
  obtain ⟨z, hz, hz2⟩ := hc i hi
  exact ⟨z, by rw [hb.cell (p := ⟨b, off + i, none⟩) hl]; exact hz, hz2⟩

end Go.Proofs.YtcmbilddlbejgaaDoor
