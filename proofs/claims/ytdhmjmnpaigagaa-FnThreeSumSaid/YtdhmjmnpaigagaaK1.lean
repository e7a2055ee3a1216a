/- Contracts of Choose, of the program and of the reference. -/
import Derived.Test.YtdhmjmnpaigagaaA
import Derived.Test.YtdhmjmnpaigagaaPk
import Derived.Deep.QuietTactic
import Derived.BigQuiet
import Derived.RegionTactic
namespace Go.Proofs.Ytdhmjmnpaigagaa
open Go.RowKit
set_option linter.unusedVariables false

theorem infoIntK : (Try.prog.info? 3).map (fun i => (i.zero, i.size, i.bytes)) = some (some (.int .i64 0), 1, 8) := by kernel_rfl

set_option maxRecDepth 100000 in
set_option maxHeartbeats 400000 in
theorem s_Choose (n k : Int) (w : World) :
    Calls Try.prog 42 #[.int .i64 n, .int .i64 k] w fun e w' => e = .returned (.int .i64 (chooseI n k)) ∧ w = w' := by
  cases hn : inB n 0 40
  · have E := Lib.hid (show chooseI n k = -1 by simp [chooseI, hn])
    go_enter Try.func42, Try.ntmps42
    go_wp2_with (go_at_call 23; refine (s_l6In _ _ _ _).mono ?_; rintro e w' ⟨rfl, rfl⟩)
    go_ret
    exact ⟨ret_int (by rw [E.out]), rfl⟩
  obtain ⟨n0, n1⟩ := inB_iff.1 hn
  by_cases hk : k < 0
  · have E := Lib.hid (show chooseI n k = 0 by simp [chooseI, hn]; omega)
    go_enter Try.func42, Try.ntmps42
    go_wp2_with (go_at_call 23; refine (s_l6In _ _ _ _).mono ?_; rintro e w' ⟨rfl, rfl⟩)
    go_ret
    exact ⟨ret_int (by rw [E.out]), rfl⟩
  by_cases hk2 : n < k
  · have E := Lib.hid (show chooseI n k = 0 by simp [chooseI, hn, chF]; omega)
    go_enter Try.func42, Try.ntmps42
    go_wp2_with (go_at_call 23; refine (s_l6In _ _ _ _).mono ?_; rintro e w' ⟨rfl, rfl⟩)
    go_ret
    exact ⟨ret_int (by rw [E.out]), rfl⟩
  obtain ⟨N, rfl⟩ := Int.eq_ofNat_of_zero_le n0
  obtain ⟨K, rfl⟩ := Int.eq_ofNat_of_zero_le (show 0 ≤ k by omega)
  have E := Lib.hid (chooseI_in (n := N) (k := K) (by omega))
  go_enter Try.func42, Try.ntmps42
  go_wp2_with (go_at_call 23; refine (s_l6In _ _ _ _).mono ?_; rintro e w' ⟨rfl, rfl⟩)
  go_loop [5, 6] (fun o i => ∃ c : Nat, c ≤ K ∧ i = .int .i64 c ∧ o = .int .i64 (ch N c)) (fun _ i => K - (intOf i).toNat)
  case atStart => exact ⟨0, Nat.zero_le _, rfl, by rw [ch_zero]; rfl⟩
  case round =>
    obtain ⟨c, hc, rfl, rfl⟩ := hrel
    by_cases hlt : c < K
    · obtain ⟨p0, p1, pq⟩ := choose_step (N := N) (c := c) (by omega) (by omega)
      have PQ := Lib.hid pq
      clear pq
      generalize ch N c = x at *
      go_wp2
      go_round
      case rel => exact ⟨c + 1, by omega, by go_num, by rw [PQ.out]⟩
      case measure => simp [intOf]; omega
    · obtain rfl : c = K := by omega
      go_wp2
      go_ret
      exact ⟨ret_int (by rw [E.out]), rfl⟩

theorem Ints.one (w : World) (x : Int) : Ints (w.alloc (.cells #[.int .i64 x] 3)) w.heap.size (.slice (some ⟨w.heap.size, 0, none⟩) 1 1) [x] := by
  refine ⟨rfl, .inr ⟨w.heap.size, 1, #[.int .i64 x], rfl, Nat.le_refl _, ?_, Nat.le_refl _, by unfold maxLen; omega, rfl, rfl⟩⟩
  show (w.heap.push _)[w.heap.size]? = _
  rw [Array.getElem?_push, if_pos rfl]

/-- A slice of the call's own that is not empty. -/
theorem Ints.form {w : World} {base : Nat} {v : Value} {xs : List Int} (h : Ints w base v xs) (hx : xs ≠ []) : ∃ g cap, v = .slice (some ⟨g, 0, none⟩) xs.length cap ∧ base ≤ g ∧ g < w.heap.size := by
  obtain ⟨a, cap, rfl, _, h1 | ⟨g, rfl, h2, h3, _⟩⟩ := h.opened
  · exact absurd h1 hx
  · exact ⟨g, cap, rfl, h2, h3⟩

theorem Ints.cell {w : World} {base g cap : Nat} {xs : List Int} (h : Ints w base (.slice (some ⟨g, 0, none⟩) xs.length cap) xs) (j : Nat) (hj : j < xs.length) : w.cell? ⟨g, j, none⟩ = some (.int .i64 (xs.getD j 0)) ∧ w.frozen? ⟨g, j, none⟩ = false := by
  unfold Ints at h
  refine ⟨?_, h.frozenAt j⟩
  rw [h.cellAt j (by omega)]
  simp [List.getElem?_map, List.getElem?_eq_getElem hj]

theorem Ints.put {w : World} {base g cap : Nat} {xs ys : List Int} {j : Nat} {x : Int} (h : Ints w base (.slice (some ⟨g, 0, none⟩) xs.length cap) xs) (e : xs.set j x = ys) :
    Ints (w.setCell ⟨g, j, none⟩ (.int .i64 x)) base (.slice (some ⟨g, 0, none⟩) ys.length cap) ys := by
  subst e
  unfold Ints at *
  rw [List.length_set, List.map_set]
  exact (h.stored j (.int .i64 x)).1

set_option maxRecDepth 100000 in
set_option maxHeartbeats 1000000 in
theorem i_Choose (n k : Int) (w : World) :
    Calls Try.prog 48 #[.int .i64 n, .int .i64 k] w fun e w' => e = .returned (.int .i64 (chooseI n k)) ∧ Below w.heap.size w w' := by
  obtain ⟨i0, hi, hz0, hz1, hz2⟩ := info_parts infoIntK
  by_cases h1 : n < 0
  · have E := Lib.hid (show chooseI n k = -1 by simp [chooseI, inB_lo h1])
    go_enter Try.func48, Try.ntmps48
    go_wp2
    go_ret
    exact ⟨ret_int (by rw [E.out]), Below.refl _ _⟩
  by_cases h2 : 40 < n
  · have E := Lib.hid (show chooseI n k = -1 by simp [chooseI, inB_hi h2])
    go_enter Try.func48, Try.ntmps48
    go_wp2
    go_ret
    exact ⟨ret_int (by rw [E.out]), Below.refl _ _⟩
  have hn : inB n 0 40 = true := inB_true (by omega) (by omega)
  by_cases h3 : k < 0
  · have E := Lib.hid (show chooseI n k = 0 by simp [chooseI, hn]; omega)
    clear hn
    go_enter Try.func48, Try.ntmps48
    go_wp2
    go_ret
    exact ⟨ret_int (by rw [E.out]), Below.refl _ _⟩
  by_cases h4 : n < k
  · have E := Lib.hid (show chooseI n k = 0 by simp [chooseI, hn, chF]; omega)
    clear hn
    go_enter Try.func48, Try.ntmps48
    go_wp2
    go_ret
    exact ⟨ret_int (by rw [E.out]), Below.refl _ _⟩
  clear hn
  obtain ⟨N, rfl⟩ := Int.eq_ofNat_of_zero_le (show 0 ≤ n by omega)
  obtain ⟨K, rfl⟩ := Int.eq_ofNat_of_zero_le (show 0 ≤ k by omega)
  have E := Lib.hid (chooseI_in (n := N) (k := K) (by omega))
  go_enter Try.func48, Try.ntmps48
  go_wp2
  go_loopw [5, 6] (fun v _ wr => ∃ c : Nat, c ≤ N ∧ Ints wr w.heap.size v (rowL c) ∧ Below w.heap.size w wr) (fun v _ _ => match v with | .slice _ l _ => 100 - l | _ => 0)
  case atStart => exact ⟨0, Nat.zero_le _, Ints.one _ _, (Below.refl _ _).alloc (Nat.le_refl _) _⟩
  case round =>
    obtain ⟨c, hc, hown, hnx⟩ := hrel
    obtain ⟨g, cap, hv, hg1, hg2⟩ := hown.form (by simp [rowL])
    rw [rowL_length] at hv
    subst hv
    have hown2 : wr.ownsRow w.heap.size 3 1 (.slice (some ⟨g, 0, none⟩) (c + 1) cap) (c + 1) ((rowL c).map (Value.int .i64)) := by
      have := hown
      unfold Ints at this
      rw [rowL_length] at this
      exact this
    have hsz := hnx.size
    by_cases hlt : c < N
    · go_wp2_with (at_builtin; refine wpList_append_own _ rfl _ _ 34 rfl w.heap.size 3 i0 (.int .i64 0) 1 8 Try.underlying34 hi hz0 hz1 hz2 rfl (by decide) _ _ _ rfl (hown2.alloc _) ⟨wr.heap.size, 0, none⟩ 1 1 [.int .i64 0] rfl rfl ?c1 ?c2 ?c3 ?c4 ?c5 ?_)
      case c1 => exact cell_one_new _ _ _
      case c2 => intro u hu; simp at hu; subst hu; rfl
      case c3 => unfold maxLen; omega
      case c4 => omega
      case c5 => simp; omega
      intro v' w1 hown' hgrow _
      have A1 : Ints w1 w.heap.size v' (midL c (c + 2)) := by
        rw [midL_start]
        refine Ints.app ?_
        rw [rowL_length]
        exact hown'
      have A2 := app_below hnx hown hgrow (Nat.le_refl _) hsz
      clear hown' hgrow hown hown2 hnx
      obtain ⟨g', cap', hv', hg1', hg2'⟩ := A1.form (by simp [midL])
      rw [midL_length] at hv'
      subst hv'
      have H1 := Lib.hid A1
      have H2 := Lib.hid A2
      clear A1 A2
      clear hg1 hg2 hsz
      go_wp2
      go_loopw [6] (fun i wq => ∃ j : Nat, j ≤ c + 1 ∧ i = .int .i64 j ∧ Ints wq w.heap.size (.slice (some ⟨g', 0, none⟩) (c + 2) cap') (midL c (j + 1)) ∧ Below w.heap.size w wq) (fun i _ => (intOf i).toNat)
      case atStart => exact ⟨c + 1, Nat.le_refl _, by go_num, H1.out, H2.out⟩
      case round =>
        obtain ⟨j, hj, rfl, hq, hnq⟩ := hrel
        have hq' : Ints wr w.heap.size (.slice (some ⟨g', 0, none⟩) (midL c (j + 1)).length cap') (midL c (j + 1)) := by rw [midL_length]; exact hq
        by_cases h0 : 0 < j
        · obtain ⟨q, rfl⟩ : ∃ q, j = q + 1 := ⟨j - 1, by omega⟩
          obtain ⟨c1, f1⟩ := hq'.cell (q + 1) (by rw [midL_length]; omega)
          obtain ⟨c2, _⟩ := hq'.cell q (by rw [midL_length]; omega)
          rw [midL_get _ _ _ (by omega), if_neg (by omega)] at c1 c2
          have P := hq'.put (midL_set c q (by omega))
          rw [midL_length] at P
          have P2 := hnq.setCell (p := ⟨g', q + 1, none⟩) hg1' (.int .i64 ((ch c (q + 1) : Int) + (ch c q : Int)))
          have b1 := ch_le c (q + 1)
          have b2 := ch_le c q
          have b3 : 2 ^ c ≤ 2 ^ 40 := Nat.pow_le_pow_right (by omega) (by omega)
          have HP := Lib.hid P
          have HP2 := Lib.hid P2
          have b4 : ((ch c (q + 1) : Nat) : Int) ≤ 1099511627776 := by omega
          have b5 : ((ch c q : Nat) : Int) ≤ 1099511627776 := by omega
          clear P P2 hq hq' hnq b1 b2 b3
          generalize ch c (q + 1) = X at *
          generalize ch c q = Y at *
          go_wp2
          go_region
          all_goals go_wp2
          all_goals go_roundw
          case rel => exact ⟨q, by omega, rfl, HP.out, HP2.out.drew⟩
          case measure => simp [intOf]
        · obtain rfl : j = 0 := by omega
          have HQ := Lib.hid hq
          have HN := Lib.hid hnq
          clear hq hq' hnq
          go_wp2
          go_roundw
          case rel => exact ⟨c + 1, by omega, by rw [← midL_end]; exact HQ.out, HN.out⟩
          case measure => simp; omega
    · obtain rfl : c = N := by omega
      have hq' : Ints wr w.heap.size (.slice (some ⟨g, 0, none⟩) (rowL c).length cap) (rowL c) := by rw [rowL_length]; exact hown
      obtain ⟨c1, _⟩ := hq'.cell K (by rw [rowL_length]; omega)
      rw [rowL_get _ _ (by omega)] at c1
      have HN := Lib.hid hnx
      clear hown hown2 hq' hnx
      go_wp2
      go_ret
      exact ⟨ret_int (by rw [E.out]), HN.out⟩

end Go.Proofs.Ytdhmjmnpaigagaa
