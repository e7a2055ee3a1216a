/- The walks of the laws on the number, the rule and the swap of hyperfine levels. -/
import Derived.Test.YtnpfcifdpmdnlaaE
import Derived.Test.YtnpfcifdpmdnlaaL1
namespace Go.Proofs.Ytnpfcifdpmdnlaa
open Go.RowKit

def RTrue (w : World) (e : Ending) (w' : World) : Prop := e = .returned (.bool true) ∧ Below w.heap.size w w'

set_option maxHeartbeats 400000 in
theorem l_FnHyperSwap (a : Option Addr) (len cap : Nat) (w : World) (h : Code w a len cap) (hl : len ≤ 9223372036854775807) (hc : cap ≤ 9223372036854775807) :
    Calls Try.prog 6 #[.slice a len cap] w (RTrue w) := by
  have H := Lib.hid h
  clear h
  by_cases hbig : 1048576 < len
  · go_enter Try.func6, Try.ntmps6
    go_wp2_with fail
    go_ret
    exact ⟨rfl, Below.refl _ _⟩
  go_enter Try.func6, Try.ntmps6
  go_wp2_with fail
  refine (s_DrawHyperShift a len cap w H.out hl hc).mono ?_
  rintro e w1 ⟨f, j, i, rfl, hf, hj, hi, hb1⟩
  go_wp2_with fail
  refine (i_HyperShift f j i w1).mono ?_
  rintro e w2 ⟨rfl, hb2⟩
  go_wp2_with fail
  refine (s_HyperShift f j i w2).mono ?_
  rintro e w3 ⟨rfl, rfl⟩
  have B := Lib.hid (btr hb1 hb2)
  by_cases hz : shiftI f j i = 0
  · have hz' : (shiftI f j i == 0) = true := by simp [hz]
    clear hz
    go_wp2_with fail
    go_ret
    exact ⟨rfl, B.out⟩
  · have hz' : (shiftI f j i == 0) = false := by simp [hz]
    clear hz
    have e : shiftI f i j = shiftI f j i := by
      have : hyB f i j = hyB f j i := by rw [Bool.eq_iff_iff, hyB_iff, hyB_iff]; omega
      unfold shiftI; rw [this]; split <;> omega
    have E := Lib.hid e
    clear e
    go_wp2_with fail
    refine (i_HyperShift f i j w2).mono ?_
    rintro e w4 ⟨rfl, hb4⟩
    rw [E.out]
    go_wp2_with fail
    go_ret
    exact ⟨rfl, btr B.out hb4⟩

theorem sq_step (f : Int) : sq (f + 2) - sq f = 4 * (f + 2) := by
  unfold sq
  have e : (f + 2) * (f + 2 + 2) = f * (f + 2) + 4 * (f + 2) := by
    rw [show f + 2 + 2 = f + 4 by omega, Int.mul_comm f (f + 2), Int.mul_add, Int.mul_comm (f + 2) 4]
  omega

theorem shift_ne {f j i : Int} (h : (shiftI f j i == 0) = false) : hyB f j i = true := by
  cases hh : hyB f j i
  · simp [shiftI, hh] at h
  · rfl

set_option maxHeartbeats 400000 in
theorem l_FnHyperRule (a : Option Addr) (len cap : Nat) (w : World) (h : Code w a len cap) (hl : len ≤ 9223372036854775807) (hc : cap ≤ 9223372036854775807) :
    Calls Try.prog 5 #[.slice a len cap] w (RTrue w) := by
  have H := Lib.hid h
  clear h
  by_cases hbig : 1048576 < len
  · go_enter Try.func5, Try.ntmps5
    go_wp2_with fail
    go_ret
    exact ⟨rfl, Below.refl _ _⟩
  go_enter Try.func5, Try.ntmps5
  go_wp2_with fail
  refine (s_DrawHyperShift a len cap w H.out hl hc).mono ?_
  rintro e w1 ⟨f, j, i, rfl, hf, hj, hi, hb1⟩
  go_wp2_with fail
  refine (i_HyperShift f j i w1).mono ?_
  rintro e w2 ⟨rfl, hb2⟩
  go_wp2_with fail
  refine (s_HyperShift f j i w2).mono ?_
  rintro e w3 ⟨rfl, rfl⟩
  have B := Lib.hid (btr hb1 hb2)
  by_cases hz : shiftI f j i = 0
  · have hz' : (shiftI f j i == 0) = true := by simp [hz]
    clear hz
    go_wp2_with fail
    go_ret
    exact ⟨rfl, B.out⟩
  · have hz' : (shiftI f j i == 0) = false := by simp [hz]
    clear hz
    have hv := hyB_iff.1 (shift_ne hz')
    have ev := Lib.hid (shift_ne hz')
    obtain ⟨f1, f2⟩ : 0 ≤ sq f ∧ sq f ≤ 24 * (24 + 2) := sq_bd (by omega) (by omega)
    obtain ⟨j1, j2⟩ : 0 ≤ sq j ∧ sq j ≤ 24 * (24 + 2) := sq_bd (by omega) (by omega)
    obtain ⟨i1, i2⟩ : 0 ≤ sq i ∧ sq i ≤ 24 * (24 + 2) := sq_bd (by omega) (by omega)
    have es : shiftI f j i = sq f - sq j - sq i := by unfold shiftI; rw [if_pos ev.out]
    by_cases hgt : j + i < f + 2
    · have e : shiftI (f + 2) j i = 0 := by
        have : hyB (f + 2) j i = false := by
          cases hh : hyB (f + 2) j i
          · rfl
          · have := hyB_iff.1 hh; omega
        unfold shiftI; rw [if_neg (by simp [this])]
      have E := Lib.hid e
      clear e es
      go_wp2_with fail
      refine (i_HyperShift (f + 2) j i w2).mono ?_
      rintro e w4 ⟨rfl, hb4⟩
      rw [E.out]
      go_wp2_with fail
      go_ret
      exact ⟨rfl, btr B.out hb4⟩
    · have e : shiftI (f + 2) j i = shiftI f j i + 4 * (f + 2) := by
        have : hyB (f + 2) j i = true := hyB_iff.2 (by omega)
        have h2 := sq_step f
        rw [es]; unfold shiftI; rw [if_pos this]; omega
      have b1 : -2000 ≤ shiftI f j i := by omega
      have b2 : shiftI f j i ≤ 2000 := by omega
      have E := Lib.hid e
      clear e es
      have t : (shiftI f j i + 4 * (f + 2) - shiftI f j i == 4 * (f + 2)) = true := by simp; omega
      go_wp2_with fail
      refine (i_HyperShift (f + 2) j i w2).mono ?_
      rintro e w4 ⟨rfl, hb4⟩
      rw [E.out]
      go_wp2_with fail
      go_ret
      refine ⟨ret_bool ?_, btr B.out hb4⟩
      first | rfl | exact t | (simp; omega)

theorem hyperL_ne {j i : Int} (h : hyperL j i ≠ []) : (0 ≤ j ∧ j ≤ 12) ∧ (0 ≤ i ∧ i ≤ 12) ∧ hyperL j i = stepL (absI (j - i)) (min j i + 1).toNat := by
  unfold hyperL at h ⊢
  by_cases h1 : (inB j 0 12 && inB i 0 12) = true
  · rw [if_pos h1] at h ⊢
    simp [inB] at h1
    have h2 : coupledOk j i = true := by simp [coupledOk, inB]; omega
    refine ⟨by omega, by omega, ?_⟩
    unfold coupledL
    rw [if_pos h2]
  · rw [if_neg h1] at h; exact absurd rfl h

theorem hyperL_comm (j i : Int) : hyperL i j = hyperL j i := by
  unfold hyperL
  have e1 : (inB i 0 12 && inB j 0 12) = (inB j 0 12 && inB i 0 12) := Bool.and_comm _ _
  have e2 : coupledL i j = coupledL j i := by
    unfold coupledL
    have a1 : coupledOk i j = coupledOk j i := by unfold coupledOk; rw [Bool.and_comm (inB i 0 24), Int.add_comm]
    have a2 : absI (i - j) = absI (j - i) := by unfold absI; omega
    rw [a1, a2, Int.min_comm]
  rw [e1, e2]

set_option maxHeartbeats 400000 in
theorem l_FnHyperNumber (a : Option Addr) (len cap : Nat) (w : World) (h : Code w a len cap) (hl : len ≤ 9223372036854775807) (hc : cap ≤ 9223372036854775807) :
    Calls Try.prog 4 #[.slice a len cap] w (RTrue w) := by
  have H := Lib.hid h
  clear h
  by_cases hbig : 1048576 < len
  · go_enter Try.func4, Try.ntmps4
    go_wp2_with fail
    go_ret
    exact ⟨rfl, Below.refl _ _⟩
  go_enter Try.func4, Try.ntmps4
  go_wp2_with fail
  refine (s_DrawHyperLevels a len cap w H.out hl hc).mono ?_
  rintro e w1 ⟨j, i, rfl, hj, hi, hb1⟩
  go_wp2_with fail
  refine (i_HyperLevels j i w1).mono ?_
  rintro e w2 ⟨v, rfl, hv, hb2⟩
  go_wp2_with fail
  refine (s_HyperLevels j i w2).mono ?_
  rintro e w3 ⟨u, rfl, hu, hb3⟩
  go_wp2_with fail
  refine (l_sameInts v u _ _ _ w3 (hv.kept hb3) hu).mono ?_
  rintro e w4 ⟨rfl, hb4⟩
  have V := Lib.hid (hv.kept (btr hb3 hb4))
  have U := Lib.hid (hu.kept hb4)
  have B := Lib.hid (btr (btr hb1 hb2) (btr hb3 hb4))
  obtain ⟨v1, c1, rfl, m1, _⟩ := hv.opened
  clear hv hu hb1 hb2 hb3 hb4
  unfold maxLen at m1
  by_cases hz : (hyperL j i).length = 0
  · have hz' : (((hyperL j i).length : Int) == 0) = true := by simp [hz]
    clear hz
    generalize (hyperL j i).length = n at *
    go_wp2_with fail
    refine (l_sameInts _ u _ _ _ w4 V.out U.out).mono ?_
    rintro e w5 ⟨rfl, hb5⟩
    go_wp2_with fail
    go_ret
    exact ⟨rfl, btr B.out hb5⟩
  · have hn := hyperL_ne (j := j) (i := i) (fun h => hz (by rw [h]; rfl))
    have hlen : ((hyperL j i).length : Int) = min (j + 1) (i + 1) := by rw [hn.2.2, stepL_length]; omega
    obtain ⟨hj2, hi2, _⟩ := hn
    generalize hN : (hyperL j i).length = n at *
    have HN := Lib.hid hN
    clear hN
    have hz' : ((n : Int) == 0) = false := by simp; omega
    by_cases hji : j ≤ i
    · have t0 : ((n : Int) == j + 1) = true := by simp; omega
      clear hlen
      go_wp2_with fail
      refine (i_HyperLevels i j w4).mono ?_
      rintro e w5 ⟨t, rfl, ht, hb5⟩
      rw [hyperL_comm] at ht
      go_wp2_with fail
      refine (l_sameInts t _ _ _ _ w5 ht (V.out.kept hb5)).mono ?_
      rintro e w6 ⟨rfl, hb6⟩
      go_wp2_with fail
      go_ret
      exact ⟨rfl, btr B.out (btr hb5 hb6)⟩
    · have t0 : ((n : Int) == i + 1) = true := by simp; omega
      clear hlen
      go_wp2_with fail
      refine (i_HyperLevels i j w4).mono ?_
      rintro e w5 ⟨t, rfl, ht, hb5⟩
      rw [hyperL_comm] at ht
      go_wp2_with fail
      refine (l_sameInts t _ _ _ _ w5 ht (V.out.kept hb5)).mono ?_
      rintro e w6 ⟨rfl, hb6⟩
      go_wp2_with fail
      go_ret
      exact ⟨rfl, btr B.out (btr hb5 hb6)⟩

end Go.Proofs.Ytnpfcifdpmdnlaa
