/- The contract of l12Ways. -/
import Derived.Test.YtcmbilddlbejgaaDoorPu
import Derived.Test.YtcmbilddlbejgaaDoorA
namespace Go.Proofs.YtcmbilddlbejgaaDoor
open Go.RowKit

set_option maxRecDepth 100000 in
set_option maxHeartbeats 1000000 in
theorem s_l12Ways : ∀ (k : Nat) (l m n o s : Int) (w : World), m = l + 1 - k → k ≤ 5 → -10 ≤ l → l ≤ 10 → -10000 ≤ n → n ≤ 10000 → -10000 + 100 * (k : Int) ≤ o → o ≤ 10000 - 100 * (k : Int) → -10000 + (k : Int) ≤ s → s ≤ 10000 - (k : Int) →
    Calls Tryd.prog 27 #[.int .i64 l, .int .i64 m, .int .i64 n, .int .i64 o, .int .i64 s] w fun e w' => e = .returned (.int .i64 (waysF k m n o s)) ∧ w = w' := by
  intro k
  induction k with
  | zero =>
    intro l m n o s w hm _ _ _ _ _ _ _ _ _
    have h1 : l < m := by omega
    clear hm
    by_cases hn : n = 0
    · subst hn
      by_cases ho : o = 0
      · subst ho
        by_cases hs : s = 0
        · subst hs
          go_enter Tryd.func27, Tryd.ntmps27
          go_wp2_with fail
          go_ret
          exact ⟨ret_int (by simp [waysF]), rfl⟩
        · have hs' : (s == 0) = false := by simpa using hs
          go_enter Tryd.func27, Tryd.ntmps27
          go_wp2_with fail
          go_ret
          exact ⟨ret_int (by simp [waysF, hs]), rfl⟩
      · have ho' : (o == 0) = false := by simpa using ho
        go_enter Tryd.func27, Tryd.ntmps27
        go_wp2_with fail
        go_ret
        exact ⟨ret_int (by simp [waysF, ho]), rfl⟩
    · have hn' : (n == 0) = false := by simpa using hn
      go_enter Tryd.func27, Tryd.ntmps27
      go_wp2_with fail
      go_ret
      exact ⟨ret_int (by simp [waysF, hn]), rfl⟩
  | succ k ih =>
    intro l m n o s w hm hk hl1 hl2 hn1 hn2 ho1 ho2 hs1 hs2
    have hm1 : m ≤ l := by omega
    have hm2 : l - 4 ≤ m := by omega
    have hx : l - m = k := by omega
    have HX := Lib.hid hm
    have HX2 := Lib.hid hx
    clear hm hx
    by_cases hn0 : n < 0
    · go_enter Tryd.func27, Tryd.ntmps27
      go_wp2_with fail
      go_ret
      exact ⟨ret_int (by simp [waysF, hn0]), rfl⟩
    by_cases hn3 : 2 * (l - m + 1) < n
    · go_enter Tryd.func27, Tryd.ntmps27
      go_wp2_with fail
      go_ret
      refine ⟨ret_int ?_, rfl⟩
      have := HX2.out
      unfold waysF
      rw [if_pos (Or.inr (by omega))]
    have B1 := waysF_1024 k (m + 1) n o s (by omega)
    have B2 := waysF_1024 k (m + 1) (n - 1) (o - m) (s - 1) (by omega)
    have B3 := waysF_1024 k (m + 1) (n - 1) (o - m) (s + 1) (by omega)
    have B4 := waysF_1024 k (m + 1) (n - 2) (o - 2 * m) s (by omega)
    go_enter Tryd.func27, Tryd.ntmps27
    go_wp2_with fail
    refine (ih l (m + 1) n o s _ (by have := HX.out; omega) (by omega) (by omega) (by omega) (by omega) (by omega) (by omega) (by omega) (by omega) (by omega)).mono ?_
    rintro e w' ⟨rfl, rfl⟩
    go_wp2_with fail
    refine (ih l (m + 1) (n - 1) (o - m) (s - 1) _ (by have := HX.out; omega) (by omega) (by omega) (by omega) (by omega) (by omega) (by omega) (by omega) (by omega) (by omega)).mono ?_
    rintro e w' ⟨rfl, rfl⟩
    go_wp2_with fail
    refine (ih l (m + 1) (n - 1) (o - m) (s + 1) _ (by have := HX.out; omega) (by omega) (by omega) (by omega) (by omega) (by omega) (by omega) (by omega) (by omega) (by omega)).mono ?_
    rintro e w' ⟨rfl, rfl⟩
    go_wp2_with fail
    refine (ih l (m + 1) (n - 2) (o - 2 * m) s _ (by have := HX.out; omega) (by omega) (by omega) (by omega) (by omega) (by omega) (by omega) (by omega) (by omega) (by omega)).mono ?_
    rintro e w' ⟨rfl, rfl⟩
    go_wp2_with fail
    go_ret
    refine ⟨ret_int ?_, rfl⟩
    have := HX2.out
    conv => rhs; unfold waysF
    rw [if_neg (by omega)]

end Go.Proofs.YtcmbilddlbejgaaDoor
