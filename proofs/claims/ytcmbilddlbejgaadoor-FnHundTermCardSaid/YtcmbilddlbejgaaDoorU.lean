/- Contracts of the counts of microstates and of terms, of the reference; Hund's term, of both. -/
import Derived.Test.YtcmbilddlbejgaaDoorPu
import Derived.Test.YtcmbilddlbejgaaDoorUw
import Derived.Test.YtcmbilddlbejgaaDoorTm
import Derived.Test.YtcmbilddlbejgaaDoorRw
import Derived.Deep.QuietTactic
import Derived.BigQuiet
import Derived.RegionTactic
namespace Go.Proofs.YtcmbilddlbejgaaDoor
open Go.RowKit

set_option maxHeartbeats 400000 in
theorem s_l12Ok (l n : Int) (w : World) :
    Calls Tryd.prog 17 #[.int .i64 l, .int .i64 n] w fun e w' => e = .returned (.bool (elecB l n)) ∧ w = w' := by
  cases ha : inB l 0 2
  · go_enter Tryd.func17, Tryd.ntmps17
    go_wp2_with (go_at_call 21; refine (s_l6In _ _ _ _).mono ?_; rintro e w' ⟨rfl, rfl⟩)
    go_ret
    exact ⟨ret_bool (by simp [elecB, ha]), rfl⟩
  · have hl := inB_iff.1 ha
    go_enter Tryd.func17, Tryd.ntmps17
    go_wp2_with (go_at_call 21; refine (s_l6In _ _ _ _).mono ?_; rintro e w' ⟨rfl, rfl⟩)
    go_ret
    exact ⟨ret_bool (by simp [elecB, ha]), rfl⟩

def capI (l : Int) : Int := if 0 ≤ l ∧ l ≤ 3 then 4 * l + 2 else 0
theorem capI_in {l : Int} (h : 0 ≤ l) (h2 : l ≤ 3) : capI l = 4 * l + 2 := if_pos ⟨h, h2⟩

set_option maxHeartbeats 400000 in
theorem i_ShellCapacity (l : Int) (w : World) :
    Calls Tryd.prog 16 #[.int .i64 l] w fun e w' => e = .returned (.int .i64 (capI l)) ∧ w = w' := by
  go_enter Tryd.func16, Tryd.ntmps16
  go_wp2
  all_goals go_ret
  all_goals (refine ⟨ret_int ?_, rfl⟩; unfold capI; (first | rw [if_pos (by omega)] | rw [if_neg (by omega)]))

set_option maxHeartbeats 400000 in
theorem i_electronsValid (l n : Int) (w : World) :
    Calls Tryd.prog 11 #[.int .i64 l, .int .i64 n] w fun e w' => e = .returned (.bool (elecB l n)) ∧ w = w' := by
  by_cases h : 0 ≤ l ∧ l ≤ 2
  · obtain ⟨h1, h2⟩ := h
    by_cases h4 : 0 ≤ n
    · by_cases h5 : n ≤ 4 * l + 2
      · go_enter Tryd.func11, Tryd.ntmps11
        go_wp2_with (go_at_call 16; refine (i_ShellCapacity _ _).mono ?_; rintro e w' ⟨rfl, rfl⟩; rw [capI_in (by omega) (by omega)])
        go_ret
        exact ⟨ret_bool (by rw [elecB_iff.2 ⟨⟨h1, h2⟩, h4, h5⟩]), rfl⟩
      · have h6 : elecB l n = false := by rw [Bool.eq_false_iff]; intro h; have := elecB_iff.1 h; omega
        have H6 := Lib.hid h6
        clear h6
        go_enter Tryd.func11, Tryd.ntmps11
        go_wp2_with (go_at_call 16; refine (i_ShellCapacity _ _).mono ?_; rintro e w' ⟨rfl, rfl⟩; rw [capI_in (by omega) (by omega)])
        go_ret
        exact ⟨ret_bool (by rw [H6.out]; simpa using h5), rfl⟩
    · have h6 : elecB l n = false := by rw [Bool.eq_false_iff]; intro h; have := elecB_iff.1 h; omega
      have H6 := Lib.hid h6
      clear h6
      go_enter Tryd.func11, Tryd.ntmps11
      go_wp2_with fail
      go_ret
      exact ⟨ret_bool (by rw [H6.out]), rfl⟩
  · have h6 : elecB l n = false := by rw [Bool.eq_false_iff]; intro h; have := elecB_iff.1 h; omega
    have H6 := Lib.hid h6
    clear h6
    rcases (show l < 0 ∨ 2 < l by omega) with h | h
    · go_enter Tryd.func11, Tryd.ntmps11
      go_wp2_with fail
      go_ret
      exact ⟨ret_bool (by rw [H6.out]), rfl⟩
    · go_enter Tryd.func11, Tryd.ntmps11
      go_wp2_with fail
      go_ret
      exact ⟨ret_bool (by rw [H6.out]), rfl⟩

set_option maxHeartbeats 400000 in
theorem s_MicroCount (l n o s : Int) (w : World) (he : elecB l n = true) :
    Calls Tryd.prog 23 #[.int .i64 l, .int .i64 n, .int .i64 o, .int .i64 s] w fun e w' => e = .returned (.int .i64 (microF l n o s)) ∧ w = w' := by
  obtain ⟨⟨l1, l2⟩, n1, n2⟩ := elecB_iff.1 he
  cases ha : inB o (-20) 20
  · go_enter Tryd.func23, Tryd.ntmps23
    go_wp2_with (first | (go_at_call 17; refine (s_l12Ok _ _ _).mono ?_; rintro e w' ⟨rfl, rfl⟩) | (go_at_call 21; refine (s_l6In _ _ _ _).mono ?_; rintro e w' ⟨rfl, rfl⟩))
    go_ret
    exact ⟨ret_int (by simp [microF, ha]), rfl⟩
  cases hb : inB s (-20) 20
  · go_enter Tryd.func23, Tryd.ntmps23
    go_wp2_with (first | (go_at_call 17; refine (s_l12Ok _ _ _).mono ?_; rintro e w' ⟨rfl, rfl⟩) | (go_at_call 21; refine (s_l6In _ _ _ _).mono ?_; rintro e w' ⟨rfl, rfl⟩))
    go_ret
    exact ⟨ret_int (by simp [microF, hb]), rfl⟩
  have o1 := inB_iff.1 ha
  have s1 := inB_iff.1 hb
  go_enter Tryd.func23, Tryd.ntmps23
  go_wp2_with (first | (go_at_call 17; refine (s_l12Ok _ _ _).mono ?_; rintro e w' ⟨rfl, rfl⟩) | (go_at_call 21; refine (s_l6In _ _ _ _).mono ?_; rintro e w' ⟨rfl, rfl⟩) | (go_at_call 27; refine (s_l12Ways (2 * l + 1).toNat _ _ _ _ _ _ (by omega) (by omega) (by omega) (by omega) (by omega) (by omega) (by omega) (by omega) (by omega) (by omega)).mono ?_; rintro e w' ⟨rfl, rfl⟩))
  go_ret
  exact ⟨ret_int (by simp [microF, ha, hb]), rfl⟩

end Go.Proofs.YtcmbilddlbejgaaDoor
