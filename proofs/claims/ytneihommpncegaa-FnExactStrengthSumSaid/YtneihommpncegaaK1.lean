/- Contracts of Choose, of the program and of the reference. -/
import Derived.Test.YtneihommpncegaaA
import Derived.Test.YtneihommpncegaaPk
import Derived.Deep.QuietTactic
import Derived.BigQuiet
import Derived.RegionTactic
namespace Go.Proofs.Ytneihommpncegaa
open Go.RowKit
set_option linter.unusedVariables false

theorem infoIntK : (Try.prog.info? 3).map (fun i => (i.zero, i.size, i.bytes)) = some (some (.int .i64 0), 1, 8) := by kernel_rfl

set_option maxRecDepth 100000 in
set_option maxHeartbeats 400000 in
theorem s_Choose (n k : Int) (w : World) :
    Calls Try.prog 66 #[.int .i64 n, .int .i64 k] w fun e w' => e = .returned (.int .i64 (chooseI n k)) ∧ w = w' := by
  cases hn : inB n 0 40
  · have E := Lib.hid (show chooseI n k = -1 by simp [chooseI, hn])
    go_enter Try.func66, Try.ntmps66
    go_wp2_with (go_at_call 50; refine (s_l6In _ _ _ _).mono ?_; rintro e w' ⟨rfl, rfl⟩)
    go_ret
    exact ⟨ret_int (by rw [E.out]), rfl⟩
  obtain ⟨n0, n1⟩ := inB_iff.1 hn
  by_cases hk : k < 0
  · have E := Lib.hid (show chooseI n k = 0 by simp [chooseI, hn]; omega)
    go_enter Try.func66, Try.ntmps66
    go_wp2_with (go_at_call 50; refine (s_l6In _ _ _ _).mono ?_; rintro e w' ⟨rfl, rfl⟩)
    go_ret
    exact ⟨ret_int (by rw [E.out]), rfl⟩
  by_cases hk2 : n < k
  · have E := Lib.hid (show chooseI n k = 0 by simp [chooseI, hn, chF]; omega)
    go_enter Try.func66, Try.ntmps66
    go_wp2_with (go_at_call 50; refine (s_l6In _ _ _ _).mono ?_; rintro e w' ⟨rfl, rfl⟩)
    go_ret
    exact ⟨ret_int (by rw [E.out]), rfl⟩
  obtain ⟨N, rfl⟩ := Int.eq_ofNat_of_zero_le n0
  obtain ⟨K, rfl⟩ := Int.eq_ofNat_of_zero_le (show 0 ≤ k by omega)
  have E := Lib.hid (chooseI_in (n := N) (k := K) (by omega))
  go_enter Try.func66, Try.ntmps66
  go_wp2_with (go_at_call 50; refine (s_l6In _ _ _ _).mono ?_; rintro e w' ⟨rfl, rfl⟩)
  go_loop [5, 6] (fun o i => ∃ c : Nat, c ≤ K ∧ i = .int .i64 c ∧ o = .int .i64 (ch N c)) (fun _ i => K - (intOf i).toNat)
  case atStart => exact ⟨0, Nat.zero_le _, rfl, by rw [ch_zero]; rfl⟩
  case round =>
    obtain ⟨c, hc, rfl, rfl⟩ := hrel
    by_cases hlt : c < K
    · obtain ⟨p0, p1, pq⟩ := choose_step (N := N) (c := c) (by omega) (by omega)
      have PQ := Lib.hid pq
      clear pq
      generalize ch N c = x at *
      go_wp2
      go_round
      case rel => exact ⟨c + 1, by omega, by go_num, by rw [PQ.out]⟩
      case measure => simp [intOf]; omega
    · obtain rfl : c = K := by omega
      go_wp2
      go_ret
      exact ⟨ret_int (by rw [E.out]), rfl⟩

theorem Ints.one (w : World) (x : Int) : Ints (w.alloc (.cells #[.int .i64 x] 3)) w.heap.size (.slice (some ⟨w.heap.size, 0, none⟩) 1 1) [x] := by
  refine ⟨rfl, .inr ⟨w.heap.size, 1, #[.int .i64 x], rfl, Nat.le_refl _, ?_, Nat.le_refl _, by unfold maxLen; omega, rfl, rfl⟩⟩
  show (w.heap.push _)[w.heap.size]? = _
  rw [Array.getElem?_push, if_pos rfl]

/-- A slice of the call's own that is not empty. -/
theorem Ints.form {w : World} {base : Nat} {v : Value} {xs : List Int} (h : Ints w base v xs) (hx : xs ≠ []) : ∃ g cap, v = .slice (some ⟨g, 0, none⟩) xs.length cap ∧ base ≤ g ∧ g < w.heap.size := by
  obtain ⟨a, cap, rfl, _, h1 | ⟨g, rfl, h2, h3, _⟩⟩ := h.opened
  · exact absurd h1 hx
  · exact ⟨g, cap, rfl, h2, h3⟩

theorem Ints.cell {w : World} {base g cap : Nat} {xs : List Int} (h : Ints w base (.slice (some ⟨g, 0, none⟩) xs.length cap) xs) (j : Nat) (hj : j < xs.length) : w.cell? ⟨g, j, none⟩ = some (.int .i64 (xs.getD j 0)) ∧ w.frozen? ⟨g, j, none⟩ = false := by
  unfold Ints at h
  refine ⟨?_, h.frozenAt j⟩
  rw [h.cellAt j (by omega)]
  simp [List.getElem?_map, List.getElem?_eq_getElem hj]

theorem Ints.put {w : World} {base g cap : Nat} {xs ys : List Int} {j : Nat} {x : Int} (h : Ints w base (.slice (some ⟨g, 0, none⟩) xs.length cap) xs) (e : xs.set j x = ys) :
    Ints (w.setCell ⟨g, j, none⟩ (.int .i64 x)) base (.slice (some ⟨g, 0, none⟩) ys.length cap) ys := by
  subst e
  unfold Ints at *
  rw [List.length_set, List.map_set]
  exact (h.stored j (.int .i64 x)).1

end Go.Proofs.Ytneihommpncegaa
