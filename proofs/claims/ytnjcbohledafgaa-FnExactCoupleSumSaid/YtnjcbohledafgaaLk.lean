/- The walks of the laws on CoupleSum. -/
import Derived.Test.YtnjcbohledafgaaK3
import Derived.Test.YtnjcbohledafgaaDr
import Derived.Test.YtnjcbohledafgaaPn
namespace Go.Proofs.Ytnjcbohledafgaa
open Go.RowKit
set_option linter.unusedVariables false

def RTrueK (w : World) (e : Ending) (w' : World) : Prop := e = .returned (.bool true) ∧ Below w.heap.size w w'

set_option maxHeartbeats 400000 in
theorem l_FnExactCoupleSum (a b c m n : Int) (w : World) (_ : I64 a) (_ : I64 b) (_ : I64 c) (_ : I64 m) (_ : I64 n) :
    Calls Try.prog 3 #[.int .i64 a, .int .i64 b, .int .i64 c, .int .i64 m, .int .i64 n] w (RTrueK w) := by
  go_enter Try.func3, Try.ntmps3
  go_wp2_with fail
  refine (s_CoupleSum _ _ _ _ _ _).mono ?_
  rintro e w' ⟨rfl, rfl⟩
  go_wp2_with fail
  refine (i_CoupleSum _ _ _ _ _ _).mono ?_
  rintro e w1 ⟨rfl, hb⟩
  go_wp2_with fail
  go_ret
  exact ⟨rfl, hb⟩

set_option maxHeartbeats 1000000 in
theorem l_FnCoupleSwap (s : Option Addr) (len cap : Nat) (w : World) (h : Code w s len cap) (hl : len ≤ 9223372036854775807) (hc : cap ≤ 9223372036854775807) :
    Calls Try.prog 4 #[.slice s len cap] w (RTrueK w) := by
  have H := Lib.hid h
  clear h
  by_cases hbig : 1048576 < len
  · go_enter Try.func4, Try.ntmps4
    go_wp2_with fail
    go_ret
    exact ⟨rfl, Below.refl _ _⟩
  go_enter Try.func4, Try.ntmps4
  go_wp2_with fail
  refine (s_DrawCoupleSum s len cap w H.out hl hc).mono ?_
  rintro e w1 ⟨a, b, c, m, n, rfl, ⟨a0, a1⟩, ⟨b0, b1⟩, ⟨c0, c1⟩, ⟨m0, m1⟩, ⟨n0, n1⟩, hb1⟩
  have B1 := Lib.hid hb1
  clear hb1
  go_wp2_with fail
  refine (i_CoupleSum _ _ _ _ _ _).mono ?_
  rintro e w2 ⟨rfl, hb2⟩
  have B2 := Lib.hid hb2
  clear hb2
  go_wp2_with fail
  refine (s_CoupleSum _ _ _ _ _ _).mono ?_
  rintro e w3 ⟨rfl, rfl⟩
  have B := Lib.hid (btr B1.out B2.out)
  clear B1 B2
  by_cases hz : coupleI a b c m n = 0
  · have hz' : (coupleI a b c m n == 0) = true := by simp [hz]
    clear hz
    go_wp2_with fail
    go_ret
    exact ⟨rfl, B.out⟩
  have hz' : (coupleI a b c m n == 0) = false := by simp [hz]
  obtain ⟨hok, hhas⟩ := couple_ne hz
  have hk := cpOk_iff.1 hok
  have ht := tdB_iff.1 hk.1
  have hm := hasB_iff.1 hk.2.1
  have hn := hasB_iff.1 hk.2.2
  have hcm := hasB_iff.1 hhas
  have OK := Lib.hid hok
  have HAS := Lib.hid hhas
  clear hz hok hhas hk
  have E := Lib.hid (all5_of okSwap_all OK.out)
  obtain ⟨o1, o2⟩ := coupleI_bd a b c m n
  go_wp2_with fail
  refine (i_CoupleSum _ _ _ _ _ _).mono ?_
  rintro e v1 ⟨rfl, hb⟩
  have C1 := Lib.hid hb
  clear hb
  obtain ⟨x1, x2⟩ := coupleI_bd b a c n m
  by_cases hp : (a + b - c) / 2 % 2 = 0
  · have hp' : ((a + b - c) / 2 % 2 == 0) = true := by simp [hp]
    have hp2 : ((a + b - c) / 2 % 2 != 0) = false := by simp [hp]
    have E2 : coupleI b a c n m = coupleI a b c m n := by have := E.out; simp [okSwap, hp] at this; exact this
    rw [E2]
    clear E2 hp
    go_wp2_with fail
    go_ret
    exact ⟨rfl, btr B.out C1.out⟩
  · have hp' : ((a + b - c) / 2 % 2 == 0) = false := by simp [hp]
    have hp2 : ((a + b - c) / 2 % 2 != 0) = true := by simp [hp]
    have E2 : coupleI b a c n m = -coupleI a b c m n := by have := E.out; simp [okSwap, hp] at this; omega
    rw [E2]
    clear E2 hp
    go_wp2_with fail
    go_ret
    exact ⟨rfl, btr B.out C1.out⟩

set_option maxHeartbeats 1000000 in
theorem l_FnCoupleTurn (s : Option Addr) (len cap : Nat) (w : World) (h : Code w s len cap) (hl : len ≤ 9223372036854775807) (hc : cap ≤ 9223372036854775807) :
    Calls Try.prog 6 #[.slice s len cap] w (RTrueK w) := by
  have H := Lib.hid h
  clear h
  by_cases hbig : 1048576 < len
  · go_enter Try.func6, Try.ntmps6
    go_wp2_with fail
    go_ret
    exact ⟨rfl, Below.refl _ _⟩
  go_enter Try.func6, Try.ntmps6
  go_wp2_with fail
  refine (s_DrawCoupleSum s len cap w H.out hl hc).mono ?_
  rintro e w1 ⟨a, b, c, m, n, rfl, ⟨a0, a1⟩, ⟨b0, b1⟩, ⟨c0, c1⟩, ⟨m0, m1⟩, ⟨n0, n1⟩, hb1⟩
  have B1 := Lib.hid hb1
  clear hb1
  go_wp2_with fail
  refine (i_CoupleSum _ _ _ _ _ _).mono ?_
  rintro e w2 ⟨rfl, hb2⟩
  have B2 := Lib.hid hb2
  clear hb2
  go_wp2_with fail
  refine (s_CoupleSum _ _ _ _ _ _).mono ?_
  rintro e w3 ⟨rfl, rfl⟩
  have B := Lib.hid (btr B1.out B2.out)
  clear B1 B2
  by_cases hz : coupleI a b c m n = 0
  · have hz' : (coupleI a b c m n == 0) = true := by simp [hz]
    clear hz
    go_wp2_with fail
    go_ret
    exact ⟨rfl, B.out⟩
  have hz' : (coupleI a b c m n == 0) = false := by simp [hz]
  obtain ⟨hok, hhas⟩ := couple_ne hz
  have hk := cpOk_iff.1 hok
  have ht := tdB_iff.1 hk.1
  have hm := hasB_iff.1 hk.2.1
  have hn := hasB_iff.1 hk.2.2
  have hcm := hasB_iff.1 hhas
  have OK := Lib.hid hok
  have HAS := Lib.hid hhas
  clear hz hok hhas hk
  have E := Lib.hid (all5_of okTurn_all OK.out)
  obtain ⟨o1, o2⟩ := coupleI_bd a b c m n
  go_wp2_with fail
  refine (i_CoupleSum _ _ _ _ _ _).mono ?_
  rintro e v1 ⟨rfl, hb⟩
  have C1 := Lib.hid hb
  clear hb
  try rw [Int.zero_sub, Int.zero_sub]
  obtain ⟨x1, x2⟩ := coupleI_bd a b c (-m) (-n)
  by_cases hp : (a + b - c) / 2 % 2 = 0
  · have hp' : ((a + b - c) / 2 % 2 == 0) = true := by simp [hp]
    have hp2 : ((a + b - c) / 2 % 2 != 0) = false := by simp [hp]
    have E2 : coupleI a b c (-m) (-n) = coupleI a b c m n := by have := E.out; simp [okTurn, hp] at this; exact this
    rw [E2]
    clear E2 hp
    go_wp2_with fail
    go_ret
    exact ⟨rfl, btr B.out C1.out⟩
  · have hp' : ((a + b - c) / 2 % 2 == 0) = false := by simp [hp]
    have hp2 : ((a + b - c) / 2 % 2 != 0) = true := by simp [hp]
    have E2 : coupleI a b c (-m) (-n) = -coupleI a b c m n := by have := E.out; simp [okTurn, hp] at this; omega
    rw [E2]
    clear E2 hp
    go_wp2_with fail
    go_ret
    exact ⟨rfl, btr B.out C1.out⟩

set_option maxHeartbeats 1000000 in
theorem l_FnCoupleTop (s : Option Addr) (len cap : Nat) (w : World) (h : Code w s len cap) (hl : len ≤ 9223372036854775807) (hc : cap ≤ 9223372036854775807) :
    Calls Try.prog 5 #[.slice s len cap] w (RTrueK w) := by
  have H := Lib.hid h
  clear h
  by_cases hbig : 1048576 < len
  · go_enter Try.func5, Try.ntmps5
    go_wp2_with fail
    go_ret
    exact ⟨rfl, Below.refl _ _⟩
  go_enter Try.func5, Try.ntmps5
  go_wp2_with fail
  refine (s_DrawCoupleSum s len cap w H.out hl hc).mono ?_
  rintro e w1 ⟨a, b, c, m, n, rfl, ⟨a0, a1⟩, ⟨b0, b1⟩, ⟨c0, c1⟩, ⟨m0, m1⟩, ⟨n0, n1⟩, hb1⟩
  have B1 := Lib.hid hb1
  clear hb1
  go_wp2_with fail
  refine (i_CoupleSum _ _ _ _ _ _).mono ?_
  rintro e w2 ⟨rfl, hb2⟩
  have B2 := Lib.hid hb2
  clear hb2
  go_wp2_with fail
  refine (s_CoupleSum _ _ _ _ _ _).mono ?_
  rintro e w3 ⟨rfl, rfl⟩
  have B := Lib.hid (btr B1.out B2.out)
  clear B1 B2
  by_cases hz : coupleI a b c m n = 0
  · have hz' : (coupleI a b c m n == 0) = true := by simp [hz]
    clear hz
    go_wp2_with fail
    go_ret
    exact ⟨rfl, B.out⟩
  have hz' : (coupleI a b c m n == 0) = false := by simp [hz]
  obtain ⟨hok, hhas⟩ := couple_ne hz
  have hk := cpOk_iff.1 hok
  have ht := tdB_iff.1 hk.1
  have hm := hasB_iff.1 hk.2.1
  have hn := hasB_iff.1 hk.2.2
  have hcm := hasB_iff.1 hhas
  have OK := Lib.hid hok
  have HAS := Lib.hid hhas
  clear hz hok hhas hk
  by_cases hab : 6 < a + b
  · go_wp2_with fail
    go_ret
    exact ⟨rfl, B.out⟩
  have E := Lib.hid (show coupleI a b (a + b) m n = chooseI a ((a - m) / 2) * chooseI b ((b + n) / 2) by have := all5_of okTopK_all OK.out; simp [okTopK] at this; omega)
  obtain ⟨q1, q2⟩ := chooseI_bd (n := a) (k := (a - m) / 2) 6 (by omega) (by omega) (by omega)
  obtain ⟨q3, q4⟩ := chooseI_bd (n := b) (k := (b + n) / 2) 6 (by omega) (by omega) (by omega)
  obtain ⟨q5, q6⟩ := mul_bd (A := 64) (B := 64) (a := chooseI a ((a - m) / 2)) (b := chooseI b ((b + n) / 2)) (by omega) (by omega) (by omega) (by omega)
  go_wp2_with fail
  refine (i_CoupleSum _ _ _ _ _ _).mono ?_
  rintro e v1 ⟨rfl, hb⟩
  have C1 := Lib.hid hb
  clear hb
  go_wp2_with fail
  refine (i_Choose _ _ _).mono ?_
  rintro e v2 ⟨rfl, hb⟩
  have C2 := Lib.hid hb
  clear hb
  go_wp2_with fail
  refine (i_Choose _ _ _).mono ?_
  rintro e v3 ⟨rfl, hb⟩
  have C3 := Lib.hid hb
  clear hb
  rw [E.out]
  go_wp2_with fail
  go_ret
  exact ⟨rfl, btr (btr (btr B.out C1.out) C2.out) C3.out⟩

end Go.Proofs.Ytnjcbohledafgaa
