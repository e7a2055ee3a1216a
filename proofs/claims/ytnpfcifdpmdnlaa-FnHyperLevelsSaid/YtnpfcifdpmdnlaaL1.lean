/- The walks of the laws on hyperfine levels. -/
import Derived.Test.YtnpfcifdpmdnlaaB
import Derived.Test.YtnpfcifdpmdnlaaC
namespace Go.Proofs.Ytnpfcifdpmdnlaa
open Go.RowKit

theorem hyperL_length (j i : Int) : (hyperL j i).length ≤ 13 := by
  unfold hyperL
  split
  · unfold coupledL
    split
    · rename_i h1 h2
      simp [inB] at h1
      rw [stepL_length]; omega
    · simp
  · simp

set_option maxHeartbeats 400000 in
theorem l_FnExactHyperLevels (j i : Int) (w : World) (_ : I64 j) (_ : I64 i) :
    Calls Try.prog 3 #[.int .i64 j, .int .i64 i] w fun e w' => e = .returned (.bool true) ∧ Below w.heap.size w w' := by
  have hl := hyperL_length j i
  go_enter Try.func3, Try.ntmps3
  go_wp2_with fail
  refine (s_HyperLevels j i w).mono ?_
  rintro e w1 ⟨v0, rfl, hv0, hb1⟩
  go_wp2_with fail
  refine (i_HyperLevels j i w1).mono ?_
  rintro e w2 ⟨v1, rfl, hv1, hb2⟩
  go_wp2_with fail
  refine (l_eqIntS v1 v0 _ _ (hyperL j i) w2 hv1 (hv0.kept hb2)).mono ?_
  rintro e w3 ⟨rfl, hb3⟩
  go_wp2_with fail
  refine (l_markIntS v1 w1.heap.size 1 (hyperL j i) w3 (hv1.kept hb3) (by omega) (by omega) (by omega)).mono ?_
  rintro e w4 ⟨rfl, hm4, hb4⟩
  go_wp2_with fail
  refine (l_heldIntS v1 _ 1 _ w4 hm4 (by omega) (by omega) (by omega)).mono ?_
  rintro e w5 ⟨rfl, rfl⟩
  go_wp2_with fail
  refine (i_HyperLevels j i w4).mono ?_
  rintro e w6 ⟨v2, rfl, hv2, hb6⟩
  have B16 := btr ((btr hb2 hb3).trans hb4) hb6
  go_wp2_with fail
  refine (l_eqIntS v2 v0 _ _ (hyperL j i) w6 hv2 (hv0.kept B16)).mono ?_
  rintro e w7 ⟨rfl, hb7⟩
  go_wp2_with fail
  refine (l_heldIntS v1 _ 1 _ w7 (hm4.kept (btr hb6 hb7)) (by omega) (by omega) (by omega)).mono ?_
  rintro e w8 ⟨rfl, rfl⟩
  go_wp2_with fail
  go_ret
  exact ⟨rfl, btr hb1 (btr B16 hb7)⟩

end Go.Proofs.Ytnpfcifdpmdnlaa
