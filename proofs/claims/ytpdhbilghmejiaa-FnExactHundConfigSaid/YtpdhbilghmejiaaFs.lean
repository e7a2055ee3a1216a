/- Shells that came in, as the walks take them. -/
import Derived.Test.YtpdhbilghmejiaaFr
import Derived.Test.YtpdhbilghmejiaaS7
import Derived.Deep.Slices
import Derived.Deep.Strs
namespace Go.Proofs.Ytpdhbilghmejiaa
open Go.ChangeShapes Go.WideShapes Go.ChangeAt Go.RowKit Go.Deep

theorem shells_of {H : Type} {enc : TypeId × Value → H} {w : World} {a : Option Addr} {len cap : Nat} {d : DataW H} {p : List MemPlace}
    (h : DataW.Trod enc Try.prog w 0 (fun _ => true) true 41 (.slice a len cap) d p) : ∃ xs, InSh w (.slice a len cap) xs := by
  obtain ⟨fuel, hf⟩ := h
  rcases open_slice Try.underlying41 hf with ⟨hcs, _⟩ | ⟨x, l, c, m, n, D, Pl, hcs, _, hl, hm, hmm, _, hi⟩
  · simp [Value.cells] at hcs
    obtain ⟨rfl, rfl, rfl⟩ := hcs
    exact ⟨[], none, 0, rfl, Nat.le_refl _, by unfold maxLen; omega, .inl rfl⟩
  · simp [Value.cells] at hcs
    obtain ⟨rfl, rfl, rfl⟩ := hcs
    have hC : Try.prog.cellsOf 67 = 3 := by kernel_rfl
    rw [hC] at hi
    have each : ∀ i, i < len → ∃ q : Sh, I64 q.1 ∧ I64 q.2.1 ∧ I64 q.2.2 ∧ w.cell? (x.add (i * 3)) = some (.int .i64 q.1) ∧ w.cell? (x.add (i * 3 + 1)) = some (.int .i64 q.2.1) ∧ w.cell? (x.add (i * 3 + 2)) = some (.int .i64 q.2.2) := by
      intro i h
      obtain ⟨cs', hc, ht⟩ := hi i (by rw [hmm]; simp; omega)
      obtain ⟨_, hlen, hat⟩ := World.cells?_some hc
      obtain ⟨c0, c1, c2, rfl⟩ : ∃ c0 c1 c2, cs' = [c0, c1, c2] := by
        match cs', hlen with
        | [c0, c1, c2], _ => exact ⟨c0, c1, c2, rfl⟩
      obtain ⟨y0, y1, y2, k, _, _, g0, g1, g2⟩ := trod_struct3 Try.underlying67 ht
      have f0 : DataW.trod enc Try.prog w 0 (fun _ => true) true k 3 [c0] = some y0 := g0
      have f1 : DataW.trod enc Try.prog w 0 (fun _ => true) true k 3 [c1] = some y1 := g1
      have f2 : DataW.trod enc Try.prog w 0 (fun _ => true) true k 3 [c2] = some y2 := g2
      obtain ⟨a0, e0, _, w0⟩ := DataW.trod_int Try.underlying3 f0
      obtain ⟨a1, e1, _, w1⟩ := DataW.trod_int Try.underlying3 f1
      obtain ⟨a2, e2, _, w2⟩ := DataW.trod_int Try.underlying3 f2
      simp at e0 e1 e2
      subst e0 e1 e2
      have k0 := hat 0 (by omega)
      have k1 := hat 1 (by omega)
      have k2 := hat 2 (by omega)
      rw [add_add] at k0 k1 k2
      exact ⟨(a0, a1, a2), i64_of w0, i64_of w1, i64_of w2, k0, k1, k2⟩
    have hx : ∃ xs : List Sh, xs.length = len ∧ ∀ i, i < len → w.cell? (x.add (i * 3)) = some (.int .i64 (shAt xs i).1) ∧ w.cell? (x.add (i * 3 + 1)) = some (.int .i64 (shAt xs i).2.1) ∧ w.cell? (x.add (i * 3 + 2)) = some (.int .i64 (shAt xs i).2.2) := by
      refine ⟨(List.range len).map (fun i => if h : i < len then (each i h).choose else (0, 0, 0)), by simp, fun i h => ?_⟩
      have e : shAt ((List.range len).map (fun i => if h : i < len then (each i h).choose else (0, 0, 0))) i = (each i h).choose := by
        rw [shAt, List.getD_eq_getElem?_getD, List.getElem?_map, List.getElem?_range h]
        simp [h]
      rw [e]
      have := (each i h).choose_spec
      exact ⟨this.2.2.2.1, this.2.2.2.2.1, this.2.2.2.2.2⟩
    obtain ⟨xs, hxl, hx⟩ := hx
    subst hxl
    refine ⟨xs, some x, cap, rfl, hl, hm, ?_⟩
    by_cases h0 : xs = []
    · exact .inl h0
    · right
      have hp : 0 < xs.length := List.length_pos_iff.2 h0
      obtain ⟨b, off, spot⟩ := x
      have hspot : spot = none := by simpa [Addr.add] using World.cell?_spot (hx 0 hp).1
      subst hspot
      have e : ∀ i, (⟨b, off, none⟩ : Addr).add i = ⟨b, off + i, none⟩ := fun i => by
        unfold Addr.add
        split <;> simp_all
      refine ⟨b, off, rfl, by have := lt_of_cell (hx 0 hp).1; rw [e] at this; exact this, fun j hj => ?_⟩
      have h1 := hx j hj
      rw [e, e, e] at h1
      exact ⟨h1.1, by rw [Nat.add_assoc]; exact h1.2.1, by rw [Nat.add_assoc]; exact h1.2.2⟩

end Go.Proofs.Ytpdhbilghmejiaa
