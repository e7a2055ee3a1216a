/- The walk of the law that hyperfine levels have all states. -/
import Derived.Test.YtnpfcifdpmdnlaaL2
import Derived.Test.YtnpfcifdpmdnlaaHk
namespace Go.Proofs.Ytnpfcifdpmdnlaa
open Go.RowKit

theorem mul_le {a b A B : Int} (h1 : 0 ≤ a) (h2 : a ≤ A) (h3 : 0 ≤ b) (h4 : b ≤ B) : 0 ≤ a * b ∧ a * b ≤ A * B :=
  ⟨Int.mul_nonneg h1 h3, Int.mul_le_mul h2 h4 h3 (by omega)⟩

def sumW (xs : List Int) : Int := (xs.map (fun x => x + 1)).sum
def sumS (j i : Int) (xs : List Int) : Int := (xs.map (fun x => (x + 1) * shiftI x j i)).sum

def okLevels (j i : Int) : Bool :=
  let L := hyperL j i
  decide (sumW L = (j + 1) * (i + 1)) && decide (sumS j i L = 0) && (List.range (L.length + 1)).all (fun k => decide (0 ≤ sumW (L.take k)) && decide (sumW (L.take k) ≤ 100000) && decide (-1000000 ≤ sumS j i (L.take k)) && decide (sumS j i (L.take k) ≤ 1000000)) &&
    L.all (fun x => decide (0 ≤ x) && decide (x ≤ 24) && decide (-1000000 ≤ (x + 1) * shiftI x j i) && decide ((x + 1) * shiftI x j i ≤ 1000000))

theorem okLevels_all : (List.range 13).all (fun j => (List.range 13).all (fun i => okLevels (j : Int) (i : Int))) = true := by decide +kernel

theorem okLevels_of {j i : Int} (hj : 0 ≤ j ∧ j ≤ 12) (hi : 0 ≤ i ∧ i ≤ 12) : okLevels j i = true := by
  have h := okLevels_all
  rw [List.all_eq_true] at h
  have h1 := h j.toNat (by simp; omega)
  rw [List.all_eq_true] at h1
  have h2 := h1 i.toNat (by simp; omega)
  rw [Int.toNat_of_nonneg hj.1, Int.toNat_of_nonneg hi.1] at h2
  exact h2

theorem sumW_snoc (xs : List Int) (k : Nat) (h : k < xs.length) : sumW (xs.take (k + 1)) = sumW (xs.take k) + (xs.getD k 0 + 1) := by
  unfold sumW
  rw [List.take_succ_eq_append_getElem h, List.map_append, List.sum_append]
  simp [List.getD_eq_getElem?_getD, List.getElem?_eq_getElem h]
theorem sumS_snoc (j i : Int) (xs : List Int) (k : Nat) (h : k < xs.length) : sumS j i (xs.take (k + 1)) = sumS j i (xs.take k) + (xs.getD k 0 + 1) * shiftI (xs.getD k 0) j i := by
  unfold sumS
  rw [List.take_succ_eq_append_getElem h, List.map_append, List.sum_append]
  simp [List.getD_eq_getElem?_getD, List.getElem?_eq_getElem h]

theorem okLevels_parts {j i : Int} (h : okLevels j i = true) : sumW (hyperL j i) = (j + 1) * (i + 1) ∧ sumS j i (hyperL j i) = 0 ∧
    (∀ k, k ≤ (hyperL j i).length → (0 ≤ sumW ((hyperL j i).take k) ∧ sumW ((hyperL j i).take k) ≤ 100000) ∧ (-1000000 ≤ sumS j i ((hyperL j i).take k) ∧ sumS j i ((hyperL j i).take k) ≤ 1000000)) ∧
    (∀ k, k < (hyperL j i).length → (0 ≤ (hyperL j i).getD k 0 ∧ (hyperL j i).getD k 0 ≤ 24) ∧ (-1000000 ≤ ((hyperL j i).getD k 0 + 1) * shiftI ((hyperL j i).getD k 0) j i ∧ ((hyperL j i).getD k 0 + 1) * shiftI ((hyperL j i).getD k 0) j i ≤ 1000000)) := by
  simp only [okLevels, Bool.and_eq_true, decide_eq_true_eq, List.all_eq_true, List.mem_range] at h
  obtain ⟨⟨⟨h1, h2⟩, h3⟩, h4⟩ := h
  refine ⟨h1, h2, fun k hk => ?_, fun k hk => ?_⟩
  · have := h3 k (by omega)
    omega
  · have hm : (hyperL j i).getD k 0 ∈ hyperL j i := by
      rw [List.getD_eq_getElem?_getD, List.getElem?_eq_getElem hk]; exact List.getElem_mem _
    have := h4 _ hm
    omega

set_option maxHeartbeats 1000000 in
theorem l_FnHyperLevels (a : Option Addr) (len cap : Nat) (w : World) (h : Code w a len cap) (hl : len ≤ 9223372036854775807) (hc : cap ≤ 9223372036854775807) :
    Calls Try.prog 7 #[.slice a len cap] w (RTrue w) := by
  have H := Lib.hid h
  clear h
  by_cases hbig : 1048576 < len
  · go_enter Try.func7, Try.ntmps7
    go_wp2_with fail
    go_ret
    exact ⟨rfl, Below.refl _ _⟩
  go_enter Try.func7, Try.ntmps7
  go_wp2_with fail
  refine (s_DrawHyperLevels a len cap w H.out hl hc).mono ?_
  rintro e w1 ⟨j, i, rfl, hj, hi, hb1⟩
  go_wp2_with fail
  refine (i_HyperLevels j i w1).mono ?_
  rintro e w2 ⟨v, rfl, hv, hb2⟩
  go_wp2_with fail
  refine (s_HyperLevels j i w2).mono ?_
  rintro e w3 ⟨u, rfl, hu, hb3⟩
  go_wp2_with fail
  refine (l_sameInts v u _ _ _ w3 (hv.kept hb3) hu).mono ?_
  rintro e w4 ⟨rfl, hb4⟩
  have V := Lib.hid (hv.kept (btr hb3 hb4))
  have U := Lib.hid (hu.kept hb4)
  have B := Lib.hid (btr (btr hb1 hb2) (btr hb3 hb4))
  obtain ⟨v1, c1, rfl, m1, hcell⟩ := V.out.opened
  clear hv hu hb1 hb2 hb3 hb4
  unfold maxLen at m1
  by_cases hz : (hyperL j i).length = 0
  · have hz' : (((hyperL j i).length : Int) == 0) = true := by simp [hz]
    clear hz hcell
    generalize (hyperL j i).length = n at *
    go_wp2_with fail
    refine (l_sameInts _ u _ _ _ w4 V.out U.out).mono ?_
    rintro e w5 ⟨rfl, hb5⟩
    go_wp2_with fail
    go_ret
    exact ⟨rfl, btr B.out hb5⟩
  · have hn := hyperL_ne (j := j) (i := i) (fun h => hz (by rw [h]; rfl))
    obtain ⟨hj2, hi2, _⟩ := hn
    have P := Lib.hid (okLevels_parts (okLevels_of hj2 hi2))
    rcases hcell with hcell | ⟨g, rfl, _, hg2, hcell⟩
    · exact absurd (by rw [hcell]; rfl) hz
    have C := Lib.hid hcell
    clear hcell
    generalize hN : (hyperL j i).length = n at *
    have HN := Lib.hid hN
    clear hN
    have hz' : ((n : Int) == 0) = false := by simp; omega
    have pj : (j + 1) * (i + 1) ≤ 13 * 13 := (mul_le (by omega) (by omega) (by omega) (by omega)).2
    have pj0 : 0 ≤ (j + 1) * (i + 1) := (mul_le (A := 13) (B := 13) (by omega) (by omega) (by omega) (by omega)).1
    go_wp2_with fail
    go_loopw [7, 8, 9] (fun s t q wr => ∃ k : Nat, k ≤ n ∧ q = .int .i64 k ∧ s = .int .i64 (sumW ((hyperL j i).take k)) ∧ t = .int .i64 (sumS j i ((hyperL j i).take k)) ∧ Below w4.heap.size w4 wr) (fun _ _ q _ => n - (intOf q).toNat)
    case atStart => exact ⟨0, Nat.zero_le _, rfl, rfl, rfl, Below.refl _ _⟩
    case round =>
      obtain ⟨k, hk, rfl, rfl, rfl, hb⟩ := hrel
      by_cases hlt : k < n
      · have e1 := sumW_snoc (hyperL j i) k (by rw [HN.out]; exact hlt)
        have e2 := sumS_snoc j i (hyperL j i) k (by rw [HN.out]; exact hlt)
        have E1 := Lib.hid e1
        have E2 := Lib.hid e2
        clear e1 e2
        obtain ⟨⟨s0, s1⟩, t0, t1⟩ := P.out.2.2.1 k (by omega)
        obtain ⟨⟨x0, x1⟩, y0, y1⟩ := P.out.2.2.2 k (by omega)
        have cc := C.out k hlt
        rw [← hb.cell (p := ⟨g, k, none⟩) hg2] at cc
        have HB := Lib.hid hb
        have hsz := hb.size
        clear hb
        generalize (hyperL j i).getD k 0 = x at *
        generalize sumW ((hyperL j i).take k) = S at *
        generalize sumS j i ((hyperL j i).take k) = T at *
        have wr1 : IntKind.i64.wrap (x + 1) = x + 1 := IntWalk.i64_in _ (by omega)
        have wr2 : IntKind.i64.wrap ((x + 1) * shiftI x j i) = (x + 1) * shiftI x j i := IntWalk.i64_in _ (by omega)
        have wr3 : IntKind.i64.wrap (T + (x + 1) * shiftI x j i) = T + (x + 1) * shiftI x j i := IntWalk.i64_in _ (by omega)
        have hgl : g < wr.heap.size := Nat.lt_of_lt_of_le hg2 hsz
        go_wp2_with fail
        go_region_held3 (fun w' => Below wr.heap.size wr w' ∧ w'.cell? ⟨g, k, none⟩ = some (.int .i64 x)) ((refine and_keep ?_ (fun hB => held_cell hB cc hgl); (repeat' (first | exact (Below.refl _ _).drew | exact Below.refl _ _ | exact And.left (by assumption) | refine bl_alloc ?_ _ | refine bl_drew ?_ | refine bl_set ?_ ?_ _ | refine btr ?_ (by assumption) | omega | (simp; done) | (simp; omega))))) (first | (go_at_call 21; refine (i_HyperShift _ _ _ _).mono ?_; rintro e w' ⟨rfl, hb'⟩))
        clear wr1 wr2 wr3
        go_wp2_with fail
        go_roundw
        case rel => exact ⟨k + 1, by omega, by go_num, by rw [E1.out]; go_num, by rw [E2.out], btr HB.out (by (repeat' (first | exact (Below.refl _ _).drew | exact Below.refl _ _ | exact And.left (by assumption) | refine bl_alloc ?_ _ | refine bl_drew ?_ | refine bl_set ?_ ?_ _ | refine btr ?_ (by assumption) | omega | (simp; done) | (simp; omega))))⟩
        case measure => simp [intOf]; omega
      · obtain rfl : k = n := by omega
        have F1 : sumW ((hyperL j i).take k) = (j + 1) * (i + 1) := by rw [List.take_of_length_le (by rw [HN.out]; omega)]; exact P.out.1
        have F2 : sumS j i ((hyperL j i).take k) = 0 := by rw [List.take_of_length_le (by rw [HN.out]; omega)]; exact P.out.2.1
        have HB := Lib.hid hb
        clear hb
        rw [F1, F2]
        clear F1 F2
        go_wp2_with fail
        go_ret
        exact ⟨rfl, btr B.out HB.out⟩

end Go.Proofs.Ytnpfcifdpmdnlaa
