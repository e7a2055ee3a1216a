/- Contracts of CoupleSum, of the program and of the reference. -/
import Derived.Test.YtdhmjmnpaigagaaK2
namespace Go.Proofs.Ytdhmjmnpaigagaa
open Go.RowKit
set_option linter.unusedVariables false

set_option maxRecDepth 100000 in
set_option maxHeartbeats 1000000 in
theorem s_CoupleSum (a b c m n : Int) (w : World) :
    Calls Try.prog 44 #[.int .i64 a, .int .i64 b, .int .i64 c, .int .i64 m, .int .i64 n] w fun e w' => e = .returned (.int .i64 (coupleI a b c m n)) ∧ w = w' := by
  cases hok : cpOk a b c m n
  · have E := Lib.hid (show coupleI a b c m n = 0 by simp [coupleI, hok])
    go_enter Try.func44, Try.ntmps44
    go_wp2_with (go_at_call 10; refine (s_l21Ok _ _ _ _ _ _).mono ?_; rintro e w' ⟨rfl, rfl⟩)
    go_ret
    exact ⟨ret_int (by rw [E.out]), rfl⟩
  have hk := cpOk_iff.1 hok
  have ht := tdB_iff.1 hk.1
  have hm := hasB_iff.1 hk.2.1
  have hn := hasB_iff.1 hk.2.2
  have HT := Lib.hid hk.1
  clear hk
  cases hh : hasB c (m + n)
  · have E := Lib.hid (show coupleI a b c m n = 0 by simp [coupleI, hok, hh])
    go_enter Try.func44, Try.ntmps44
    go_wp2_with (first | (go_at_call 10; refine (s_l21Ok _ _ _ _ _ _).mono ?_; rintro e w' ⟨rfl, rfl⟩) | (go_at_call 12; refine (s_SpinHas _ _ _).mono ?_; rintro e w' ⟨rfl, rfl⟩))
    go_ret
    exact ⟨ret_int (by rw [E.out]), rfl⟩
  have E := Lib.hid (show coupleI a b c m n = cpS a b c m n ((a + b - c) / 2 + 1).toNat by simp [coupleI, hok, hh])
  obtain ⟨X, hX⟩ := Int.eq_ofNat_of_zero_le (show 0 ≤ (a + b - c) / 2 by omega)
  have hX0 : (a + b - c) / 2 ≤ X := by omega
  have hX1 : (X : Int) ≤ (a + b - c) / 2 := by omega
  have HX := Lib.hid hX
  clear hX
  go_enter Try.func44, Try.ntmps44
  go_wp2_with (first | (go_at_call 10; refine (s_l21Ok _ _ _ _ _ _).mono ?_; rintro e w' ⟨rfl, rfl⟩) | (go_at_call 12; refine (s_SpinHas _ _ _).mono ?_; rintro e w' ⟨rfl, rfl⟩))
  go_loop [14, 15, 16] (fun s i _ => ∃ k : Nat, k ≤ X + 1 ∧ i = .int .i64 k ∧ s = .int .i64 (cpS a b c m n k)) (fun _ i _ => X + 1 - (intOf i).toNat)
  case atStart => exact ⟨0, Nat.zero_le _, rfl, rfl⟩
  case round =>
    obtain ⟨k, hk, rfl, rfl⟩ := hrel
    by_cases hlt : k ≤ X
    · have b1 := cpS_bd (m := m) (n := n) HT.out k
      obtain ⟨⟨u1, u2⟩, u3, u4⟩ := cpU_bd (m := m) (n := n) k HT.out
      have ET := Lib.hid (show cpS a b c m n (k + 1) = cpS a b c m n k + if k % 2 = 1 then 0 - cpU a b c m n k else cpU a b c m n k by rw [← cpT_U]; rfl)
      unfold cpU at u3 u4
      generalize cpS a b c m n k = S at *
      by_cases hp : k % 2 = 1
      · have hp1 : (((k : Int) % 2) == 1) = true := by simp; omega
        go_wp2_with (go_at_call 42; refine (s_Choose _ _ _).mono ?_; rintro e w' ⟨rfl, rfl⟩)
        go_round
        case rel => exact ⟨k + 1, by omega, by go_num, by rw [ET.out, if_pos hp, Int.zero_sub]; rfl⟩
        case measure => simp [intOf]; omega
      · have hp1 : (((k : Int) % 2) == 1) = false := by simp; omega
        go_wp2_with (go_at_call 42; refine (s_Choose _ _ _).mono ?_; rintro e w' ⟨rfl, rfl⟩)
        go_round
        case rel => exact ⟨k + 1, by omega, by go_num, by rw [ET.out, if_neg hp]; rfl⟩
        case measure => simp [intOf]; omega
    · obtain rfl : k = X + 1 := by omega
      have EX := Lib.hid (show ((a + b - c) / 2 + 1).toNat = X + 1 by omega)
      go_wp2
      go_ret
      exact ⟨ret_int (by rw [E.out, EX.out]), rfl⟩

set_option maxRecDepth 100000 in
set_option maxHeartbeats 1000000 in
theorem i_CoupleSum (a b c m n : Int) (w : World) :
    Calls Try.prog 50 #[.int .i64 a, .int .i64 b, .int .i64 c, .int .i64 m, .int .i64 n] w fun e w' => e = .returned (.int .i64 (coupleI a b c m n)) ∧ Below w.heap.size w w' := by
  cases hok : cpOk a b c m n
  · have E := Lib.hid (show coupleI a b c m n = 0 by simp [coupleI, hok])
    go_enter Try.func50, Try.ntmps50
    go_wp2_with (go_at_call 47; refine (i_coupleValid _ _ _ _ _ _).mono ?_; rintro e w' ⟨rfl, rfl⟩)
    go_ret
    exact ⟨ret_int (by rw [E.out]), Below.refl _ _⟩
  have hk := cpOk_iff.1 hok
  have ht := tdB_iff.1 hk.1
  have hm := hasB_iff.1 hk.2.1
  have hn := hasB_iff.1 hk.2.2
  have HT := Lib.hid hk.1
  clear hk
  cases hh : hasB c (m + n)
  · have E := Lib.hid (show coupleI a b c m n = 0 by simp [coupleI, hok, hh])
    go_enter Try.func50, Try.ntmps50
    go_wp2_with (first | (go_at_call 47; refine (i_coupleValid _ _ _ _ _ _).mono ?_; rintro e w' ⟨rfl, rfl⟩) | (go_at_call 18; refine (i_SpinHas _ _ _).mono ?_; rintro e w' ⟨rfl, rfl⟩))
    go_ret
    exact ⟨ret_int (by rw [E.out]), Below.refl _ _⟩
  have E := Lib.hid (show coupleI a b c m n = cpS a b c m n ((a + b - c) / 2 + 1).toNat by simp [coupleI, hok, hh])
  obtain ⟨X, hX⟩ := Int.eq_ofNat_of_zero_le (show 0 ≤ (a + b - c) / 2 by omega)
  have hX0 : (a + b - c) / 2 ≤ X := by omega
  have hX1 : (X : Int) ≤ (a + b - c) / 2 := by omega
  have HX := Lib.hid hX
  clear hX
  go_enter Try.func50, Try.ntmps50
  go_wp2_with (first | (go_at_call 47; refine (i_coupleValid _ _ _ _ _ _).mono ?_; rintro e w' ⟨rfl, rfl⟩) | (go_at_call 18; refine (i_SpinHas _ _ _).mono ?_; rintro e w' ⟨rfl, rfl⟩))
  go_loopw [14, 15, 16, 52] (fun s g _ i wr => ∃ k : Nat, k ≤ X + 1 ∧ i = .int .i64 k ∧ s = .int .i64 (cpS a b c m n k) ∧ g = .int .i64 (sgnK k) ∧ Below w.heap.size w wr) (fun _ _ _ i _ => X + 1 - (intOf i).toNat)
  case atStart => exact ⟨0, Nat.zero_le _, rfl, rfl, rfl, Below.refl _ _⟩
  case round =>
    obtain ⟨k, hk, rfl, rfl, rfl, hnx⟩ := hrel
    by_cases hlt : k ≤ X
    · have b1 := cpS_bd (m := m) (n := n) HT.out k
      obtain ⟨⟨u1, u2⟩, ⟨u3, u4⟩, u5, u6⟩ := cpT_bd (m := m) (n := n) k HT.out
      have ET := Lib.hid (show cpS a b c m n (k + 1) = cpS a b c m n k + cpT a b c m n k by rfl)
      have ES := Lib.hid (sgnK_succ k)
      obtain ⟨s1, s2⟩ := sgnK_bd k
      unfold cpT at u5 u6
      have HN := Lib.hid hnx
      clear hnx
      generalize cpS a b c m n k = S at *
      go_wp2_with fail
      refine (i_Choose _ _ _).mono ?_
      rintro e w1 ⟨rfl, hb1⟩
      have B1 := Lib.hid hb1
      clear hb1
      go_wp2_with fail
      refine (i_Choose _ _ _).mono ?_
      rintro e w2 ⟨rfl, hb2⟩
      have B2 := Lib.hid hb2
      clear hb2
      go_wp2_with fail
      refine (i_Choose _ _ _).mono ?_
      rintro e w3 ⟨rfl, hb3⟩
      have B3 := Lib.hid hb3
      clear hb3
      go_wp2_with fail
      go_roundw
      case rel => exact ⟨k + 1, by omega, by go_num, by rw [ET.out]; rfl, by rw [ES.out], btr (btr (btr HN.out B1.out) B2.out) B3.out⟩
      case measure => simp [intOf]; omega
    · obtain rfl : k = X + 1 := by omega
      have EX := Lib.hid (show ((a + b - c) / 2 + 1).toNat = X + 1 by omega)
      go_wp2_with fail
      go_ret
      exact ⟨ret_int (by rw [E.out, EX.out]), hnx⟩

end Go.Proofs.Ytdhmjmnpaigagaa
