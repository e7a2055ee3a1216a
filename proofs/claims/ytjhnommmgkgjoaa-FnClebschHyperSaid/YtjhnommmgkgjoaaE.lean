/- Contracts of the draws of hyperfine levels. -/
import Derived.Test.YtjhnommmgkgjoaaD
namespace Go.Proofs.Ytjhnommmgkgjoaa
open Go.RowKit

theorem only_cell {a b : World} {R g o : Nat} (h : a.grownBy b (some R)) (hg : g < a.heap.size) (hne : g ≠ R) : b.cell? ⟨g, o, none⟩ = a.cell? ⟨g, o, none⟩ :=
  World.cell?_of_block (w := a) (h.block g hg (fun e => hne (by injection e)))

set_option maxRecDepth 100000 in
set_option maxHeartbeats 1000000 in
theorem s_l92Hyper (R p : Nat) (w : World) (hr : Rd w R p) (hp : p ≤ 900000) :
    Calls Try.prog 33 #[.pointer (some ⟨R, 0, none⟩)] w (RRd3 w R p 10) := by
  have HR := Lib.hid hr
  clear hr
  go_enter Try.func33, Try.ntmps33
  go_wp2_with fail
  refine (s_pick _ _ _ _ HR.out (by omega) (by omega)).mono ?_
  rintro e w2 ⟨j, rfl, j0, j1, hr, hg⟩
  have j2 := j1 (by omega)
  have HR2 := Lib.hid hr
  have HG2 := Lib.hid hg
  clear hr hg j1
  go_wp2_with fail
  refine (s_pick _ _ _ _ HR2.out (by omega) (by omega)).mono ?_
  rintro e w3 ⟨i, rfl, i0, i1, hr, hg⟩
  have i2 := i1 (by omega)
  have HR3 := Lib.hid hr
  have HG3 := Lib.hid hg
  clear hr hg i1
  go_wp2_with fail
  refine (s_l1Abs _ _ (by omega) (by omega)).mono ?_
  rintro e w4 ⟨rfl, rfl⟩
  have q1 : 0 ≤ absI (j - i) := by unfold absI; omega
  have q2 : absI (j - i) ≤ 9 := by unfold absI; omega
  by_cases hmin : j ≤ i
  all_goals
    go_wp2_with fail
    refine (s_pick _ _ _ _ HR3.out (by omega) (by omega)).mono ?_
    rintro e w4 ⟨f, rfl, f0, f1, hr, hg⟩
    have f2 := f1 (by omega)
    have HR4 := Lib.hid hr
    have HG4 := Lib.hid hg
    clear hr hg f1
    go_wp2_with fail
    refine (s_pick _ _ _ _ HR4.out (by omega) (by omega)).mono ?_
    rintro e w5 ⟨t, rfl, t0, t1, hr, hg⟩
    have HR5 := Lib.hid hr
    have HG5 := Lib.hid hg
    clear hr hg t1
    by_cases ht : t = 0
    · subst ht
      go_wp2_with fail
      go_ret3
      exact ⟨_, _, _, _, rfl, by omega, by omega, by omega, by omega, HR5.out, only_trans (only_trans (only_trans HG2.out HG3.out) HG4.out) HG5.out⟩
    by_cases ht1 : t = 1
    · subst ht1
      have HR6 := Lib.hid (rd_alloc HR5.out (.cells #[.int .i64 (-1), .int .i64 13] 3))
      go_wp2_with fail
      refine (s_pick _ _ _ _ HR6.out (by omega) (by omega)).mono ?_
      rintro e w6 ⟨x, rfl, x0, x1, hr, hg⟩
      have x2 := x1 (by omega)
      have HR7 := Lib.hid hr
      have HG7 := Lib.hid hg
      clear hr hg x1
      have hlt := HR5.out.lt
      have k0 : w6.cell? ⟨w5.heap.size, 0, none⟩ = some (.int .i64 (-1)) := by rw [only_cell HG7.out (by simp) (by omega)]; simp
      have k1 : w6.cell? ⟨w5.heap.size, 1, none⟩ = some (.int .i64 13) := by rw [only_cell HG7.out (by simp) (by omega)]; simp
      obtain rfl | rfl : x = 0 ∨ x = 1 := by omega
      all_goals
        go_wp2_with fail
        go_ret3
        exact ⟨_, _, _, _, rfl, by omega, by omega, by omega, by omega, HR7.out, only_trans (only_trans (only_trans (only_trans HG2.out HG3.out) HG4.out) HG5.out) (only_trans (only_alloc ⟨rfl, rfl, rfl, Nat.le_refl _, fun _ _ _ => rfl⟩ _) HG7.out)⟩
    · have ht' : (t == 0) = false := by simp; omega
      have ht1' : (t == 1) = false := by simp; omega
      go_wp2_with fail
      go_ret3
      exact ⟨_, _, _, _, rfl, by omega, by omega, by omega, by omega, HR5.out, only_trans (only_trans (only_trans HG2.out HG3.out) HG4.out) HG5.out⟩

end Go.Proofs.Ytjhnommmgkgjoaa
