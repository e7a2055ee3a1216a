/- Contracts of the functions of the laws that compare, mark and look at slices of integers. -/
import Derived.Test.YtnpfcifdpmdnlaaA
import Derived.Deep.QuietTactic
import Derived.BigQuiet
namespace Go.Proofs.Ytnpfcifdpmdnlaa
open Go.RowKit

theorem below_drewN {B : Nat} {a w : World} (h : Below B a w) (n : Nat) : Below B a (w.drewN n) := ⟨h.os, h.tape, h.output, h.size, h.block⟩

set_option maxHeartbeats 400000 in
theorem l_eqIntS (v u : Value) (b1 b2 : Nat) (xs : List Int) (w : World) (hv : Ints w b1 v xs) (hu : Ints w b2 u xs) :
    Calls Try.prog 15 #[v, u] w fun e w' => e = .returned (.bool true) ∧ Below w.heap.size w w' := by
  obtain ⟨a, cap, rfl, hm, ha⟩ := hv.opened
  obtain ⟨c, cap2, rfl, _, hc⟩ := hu.opened
  clear hv hu
  unfold maxLen at hm
  rcases ha with rfl | ⟨g, rfl, _, _, hg⟩
  · go_enter Try.func15, Try.ntmps15
    go_wp2
    refine wp_loop_rounds 1 ?_
    rw [rounds_succ]
    go_wp2
    go_ret
    exact ⟨rfl, Below.refl _ _⟩
  rcases hc with rfl | ⟨g2, rfl, _, _, hg2⟩
  · go_enter Try.func15, Try.ntmps15
    go_wp2
    refine wp_loop_rounds 1 ?_
    rw [rounds_succ]
    go_wp2
    go_ret
    exact ⟨rfl, Below.refl _ _⟩
  have HG := Lib.hid hg
  have HG2 := Lib.hid hg2
  clear hg hg2
  generalize hn : xs.length = n at *
  have HN := Lib.hid hn
  clear hn
  go_enter Try.func15, Try.ntmps15
  go_wp2
  go_loopw [5] (fun i wr => ∃ k : Nat, k ≤ n ∧ i = .int .i64 k ∧ Below w.heap.size w wr ∧ ∃ m, wr = w.drewN m) (fun i _ => n - (intOf i).toNat)
  case atStart => exact ⟨0, Nat.zero_le _, rfl, Below.refl _ _, 0, rfl⟩
  case round =>
    obtain ⟨k, hk, rfl, hnx, m, rfl⟩ := hrel
    by_cases hlt : k < n
    · have c1 := HG.out k hlt
      have c2 := HG2.out k hlt
      go_wp2
      go_quiet (fail)
      go_wp2
      go_roundw
      case rel => exact ⟨k + 1, by omega, by go_num, below_drewN (Below.refl _ _) _, _, rfl⟩
      case measure => simp [intOf]; omega
    · go_wp2
      go_ret
      exact ⟨rfl, hnx⟩

set_option maxHeartbeats 400000 in
theorem l_sameInts (v u : Value) (b1 b2 : Nat) (xs : List Int) (w : World) (hv : Ints w b1 v xs) (hu : Ints w b2 u xs) :
    Calls Try.prog 19 #[v, u] w fun e w' => e = .returned (.bool true) ∧ Below w.heap.size w w' := by
  obtain ⟨a, cap, rfl, hm, ha⟩ := hv.opened
  obtain ⟨c, cap2, rfl, _, hc⟩ := hu.opened
  clear hv hu
  unfold maxLen at hm
  rcases ha with rfl | ⟨g, rfl, _, _, hg⟩
  · go_enter Try.func19, Try.ntmps19
    go_wp2
    refine wp_loop_rounds 1 ?_
    rw [rounds_succ]
    go_wp2
    go_ret
    exact ⟨rfl, Below.refl _ _⟩
  rcases hc with rfl | ⟨g2, rfl, _, _, hg2⟩
  · go_enter Try.func19, Try.ntmps19
    go_wp2
    refine wp_loop_rounds 1 ?_
    rw [rounds_succ]
    go_wp2
    go_ret
    exact ⟨rfl, Below.refl _ _⟩
  have HG := Lib.hid hg
  have HG2 := Lib.hid hg2
  clear hg hg2
  generalize hn : xs.length = n at *
  have HN := Lib.hid hn
  clear hn
  go_enter Try.func19, Try.ntmps19
  go_wp2
  go_loopw [5] (fun i wr => ∃ k : Nat, k ≤ n ∧ i = .int .i64 k ∧ Below w.heap.size w wr ∧ ∃ m, wr = w.drewN m) (fun i _ => n - (intOf i).toNat)
  case atStart => exact ⟨0, Nat.zero_le _, rfl, Below.refl _ _, 0, rfl⟩
  case round =>
    obtain ⟨k, hk, rfl, hnx, m, rfl⟩ := hrel
    by_cases hlt : k < n
    · have c1 := HG.out k hlt
      have c2 := HG2.out k hlt
      go_wp2
      go_quiet (fail)
      go_wp2
      go_roundw
      case rel => exact ⟨k + 1, by omega, by go_num, below_drewN (Below.refl _ _) _, _, rfl⟩
      case measure => simp [intOf]; omega
    · go_wp2
      go_ret
      exact ⟨rfl, hnx⟩

/-- The marks k, k + 1, .. -/
def markL (k : Int) (n : Nat) : List Int := (List.range n).map (fun i : Nat => k + (i : Int))
theorem markL_length (k : Int) (n : Nat) : (markL k n).length = n := by simp [markL]
theorem markL_get (k : Int) (n j : Nat) (h : j < n) : (markL k n).getD j 0 = k + (j : Int) := by
  simp [markL, List.getD_eq_getElem?_getD, List.getElem?_map, List.getElem?_range h]

/-- The first i numbers are marked. -/
def partL (k : Int) (xs : List Int) (i : Nat) : List Int := markL k i ++ xs.drop i
theorem partL_zero (k : Int) (xs : List Int) : partL k xs 0 = xs := by simp [partL, markL]
theorem partL_length (k : Int) (xs : List Int) (i : Nat) (h : i ≤ xs.length) : (partL k xs i).length = xs.length := by simp [partL, markL_length]; omega
theorem partL_all (k : Int) (xs : List Int) : partL k xs xs.length = markL k xs.length := by simp [partL]
theorem partL_set (k : Int) (xs : List Int) (i : Nat) (h : i < xs.length) : (partL k xs i).set i (k + (i : Int)) = partL k xs (i + 1) := by
  unfold partL
  rw [List.set_append_right _ _ (by rw [markL_length]; omega), markL_length]
  have e : markL k (i + 1) = markL k i ++ [k + (i : Int)] := by simp [markL, List.range_succ]
  rw [e, Nat.sub_self, List.drop_eq_getElem_cons h, List.set_cons_zero, List.append_assoc]
  rfl

def RMark (w : World) (base : Nat) (v : Value) (k : Int) (n : Nat) (e : Ending) (w' : World) : Prop :=
  e = .returned (.int .i64 (k + (n : Int))) ∧ Ints w' base v (markL k n) ∧ Below base w w'

set_option maxHeartbeats 400000 in
theorem l_markIntS (v : Value) (base : Nat) (k : Int) (xs : List Int) (w : World) (hv : Ints w base v xs) (h0 : 0 ≤ k) (h1 : k ≤ 1000000) (h2 : xs.length ≤ 1000000) :
    Calls Try.prog 16 #[v, .int .i64 k] w (RMark w base v k xs.length) := by
  have hv0 := hv
  obtain ⟨a, cap, rfl, hm, ha⟩ := hv.opened
  clear hv
  unfold maxLen at hm
  rcases ha with rfl | ⟨g, rfl, hg1, hg2, hg⟩
  · have HV := Lib.hid hv0
    clear hv0
    go_enter Try.func16, Try.ntmps16
    go_wp2
    refine wp_loop_rounds 1 ?_
    rw [rounds_succ]
    go_wp2
    go_ret
    exact ⟨ret_int (by simp), HV.out, Below.refl _ _⟩
  clear hg
  have HV := Lib.hid hv0
  clear hv0
  go_enter Try.func16, Try.ntmps16
  go_wp2
  go_loopw [1, 5] (fun q i wr => ∃ c : Nat, c ≤ xs.length ∧ i = .int .i64 c ∧ q = .int .i64 (k + (c : Int)) ∧ Ints wr base (.slice (some ⟨g, 0, none⟩) xs.length cap) (partL k xs c) ∧ Below base w wr) (fun _ i _ => xs.length - (intOf i).toNat)
  case atStart => exact ⟨0, Nat.zero_le _, rfl, by simp, by rw [partL_zero]; exact HV.out, Below.refl _ _⟩
  case round =>
    obtain ⟨c, hc, rfl, rfl, hown, hnx⟩ := hrel
    by_cases hlt : c < xs.length
    · have o2 : wr.ownsRow base 3 1 (.slice (some ⟨g, 0, none⟩) xs.length cap) xs.length ((partL k xs c).map (Value.int .i64)) := by
        have := hown
        unfold Ints at this
        rw [partL_length k xs c hc] at this
        exact this
      have cc : ∃ x, wr.cell? ⟨g, c, none⟩ = some x := by
        rw [o2.cellAt c (by omega)]
        have hl : c < ((partL k xs c).map (Value.int .i64)).length := by rw [List.length_map, partL_length k xs c hc]; exact hlt
        exact ⟨_, List.getElem?_eq_getElem hl⟩
      obtain ⟨x, hx⟩ := cc
      have hf := o2.frozenAt c
      have st := o2.stored c (.int .i64 (k + (c : Int)))
      have A1 : Ints (wr.setCell ⟨g, c, none⟩ (.int .i64 (k + (c : Int)))) base (.slice (some ⟨g, 0, none⟩) xs.length cap) (partL k xs (c + 1)) := by
        unfold Ints
        rw [partL_length k xs (c + 1) (by omega), ← partL_set k xs c hlt, List.map_set]
        exact st.1
      have A2 : Below base w (wr.setCell ⟨g, c, none⟩ (.int .i64 (k + (c : Int)))) := hnx.setCell hg1 _
      have H1 := Lib.hid A1
      have H2 := Lib.hid A2
      clear A1 A2 st o2 hown hnx
      go_wp2
      go_roundw
      case rel => exact ⟨c + 1, by omega, by go_num, by go_num, H1.out, H2.out⟩
      case measure => simp [intOf]; omega
    · obtain rfl : c = xs.length := by omega
      have H1 := Lib.hid hown
      clear hown
      go_wp2
      go_ret
      exact ⟨rfl, by rw [← partL_all]; exact H1.out, hnx⟩

set_option maxHeartbeats 400000 in
theorem l_heldIntS (v : Value) (base : Nat) (k : Int) (n : Nat) (w : World) (hv : Ints w base v (markL k n)) (h0 : 0 ≤ k) (h1 : k ≤ 1000000) (h2 : n ≤ 1000000) :
    Calls Try.prog 17 #[v, .int .i64 k] w fun e w' => e = .returned (.int .i64 (k + (n : Int))) ∧ w = w' := by
  obtain ⟨a, cap, rfl, hm, ha⟩ := hv.opened
  clear hv
  unfold maxLen at hm
  rw [markL_length] at *
  rcases ha with h | ⟨g, rfl, _, _, hg⟩
  · have hn : n = 0 := by have := congrArg List.length h; rw [markL_length] at this; simpa using this
    subst hn
    clear h
    go_enter Try.func17, Try.ntmps17
    go_wp2
    refine wp_loop_rounds 1 ?_
    rw [rounds_succ]
    go_wp2
    go_ret
    exact ⟨ret_int (by simp), rfl⟩
  have HG := Lib.hid hg
  clear hg
  go_enter Try.func17, Try.ntmps17
  go_wp2
  go_loop [1, 5] (fun q i => ∃ c : Nat, c ≤ n ∧ i = .int .i64 c ∧ q = .int .i64 (k + (c : Int))) (fun _ i => n - (intOf i).toNat)
  case atStart => exact ⟨0, Nat.zero_le _, rfl, by simp⟩
  case round =>
    obtain ⟨c, hc, rfl, rfl⟩ := hrel
    by_cases hlt : c < n
    · have c1 := HG.out c hlt
      rw [markL_get k n c hlt] at c1
      go_wp2
      go_round
      case rel => exact ⟨c + 1, by omega, by go_num, by go_num⟩
      case measure => simp [intOf]; omega
    · obtain rfl : c = n := by omega
      go_wp2
      go_ret
      exact ⟨rfl, rfl⟩

end Go.Proofs.Ytnpfcifdpmdnlaa
