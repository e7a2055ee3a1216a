/- Contracts of the reference's SixSum and what it calls. -/
import Derived.Test.YtneihommpncegaaK2
import Derived.Test.YtneihommpncegaaPx
namespace Go.Proofs.Ytneihommpncegaa
open Go.RowKit
set_option linter.unusedVariables false

def inK (a b c d e f : Int) : Nat → Bool
  | 0 => true
  | 1 => inB a 0 6
  | 2 => inB a 0 6 && inB b 0 6
  | 3 => inB a 0 6 && inB b 0 6 && inB c 0 6
  | 4 => inB a 0 6 && inB b 0 6 && inB c 0 6 && inB d 0 6
  | 5 => inB a 0 6 && inB b 0 6 && inB c 0 6 && inB d 0 6 && inB e 0 6
  | _ => inB a 0 6 && inB b 0 6 && inB c 0 6 && inB d 0 6 && inB e 0 6 && inB f 0 6
theorem sixOk_eq (a b c d e f : Int) (h : inK a b c d e f 6 = true) : sixOk a b c d e f = (triB a b c && triB a e f && triB d b f && triB d e c) := by
  simp only [inK, Bool.and_eq_true] at h
  obtain ⟨⟨⟨⟨⟨h1, h2⟩, h3⟩, h4⟩, h5⟩, h6⟩ := h
  simp [sixOk, tdB, h1, h2, h3, h4, h5, h6]

set_option maxRecDepth 100000 in
set_option maxHeartbeats 2000000 in
theorem s_l23Ok (a b c d e f : Int) (w : World) :
    Calls Try.prog 28 #[.int .i64 a, .int .i64 b, .int .i64 c, .int .i64 d, .int .i64 e, .int .i64 f] w fun r w' => r = .returned (.bool (sixOk a b c d e f)) ∧ Below w.heap.size w w' := by
  go_enter Try.func28, Try.ntmps28
  go_wp2_with fail
  go_loop [14] (fun i => ∃ k : Nat, k ≤ 6 ∧ i = .int .i64 k ∧ inK a b c d e f k = true) (fun i => 6 - (intOf i).toNat)
  case atStart => exact ⟨0, by omega, rfl, rfl⟩
  case round =>
    obtain ⟨k, hk, rfl, hx⟩ := hrel
    have HX := Lib.hid hx
    clear hx
    rcases (by omega : k = 0 ∨ k = 1 ∨ k = 2 ∨ k = 3 ∨ k = 4 ∨ k = 5 ∨ k = 6) with rfl | rfl | rfl | rfl | rfl | rfl | rfl
    · cases ht : inB a 0 6
      · have E := Lib.hid (show sixOk a b c d e f = false by simp [sixOk, tdB, ht])
        go_wp2_with (go_at_call 50; refine (s_l6In _ _ _ _).mono ?_; rintro r w' ⟨rfl, rfl⟩)
        go_ret
        exact ⟨ret_bool (by rw [E.out]), bl_alloc (Below.refl _ _) _⟩
      · have EX := Lib.hid (show inK a b c d e f 1 = true by have := HX.out; simp [inK, ht] at *; try exact this)
        go_wp2_with (go_at_call 50; refine (s_l6In _ _ _ _).mono ?_; rintro r w' ⟨rfl, rfl⟩)
        go_round
        case rel => exact ⟨1, by omega, rfl, EX.out⟩
        case measure => simp [intOf]
    · cases ht : inB b 0 6
      · have E := Lib.hid (show sixOk a b c d e f = false by simp [sixOk, tdB, ht])
        go_wp2_with (go_at_call 50; refine (s_l6In _ _ _ _).mono ?_; rintro r w' ⟨rfl, rfl⟩)
        go_ret
        exact ⟨ret_bool (by rw [E.out]), bl_alloc (Below.refl _ _) _⟩
      · have EX := Lib.hid (show inK a b c d e f 2 = true by have := HX.out; simp [inK, ht] at *; try exact this)
        go_wp2_with (go_at_call 50; refine (s_l6In _ _ _ _).mono ?_; rintro r w' ⟨rfl, rfl⟩)
        go_round
        case rel => exact ⟨2, by omega, rfl, EX.out⟩
        case measure => simp [intOf]
    · cases ht : inB c 0 6
      · have E := Lib.hid (show sixOk a b c d e f = false by simp [sixOk, tdB, ht])
        go_wp2_with (go_at_call 50; refine (s_l6In _ _ _ _).mono ?_; rintro r w' ⟨rfl, rfl⟩)
        go_ret
        exact ⟨ret_bool (by rw [E.out]), bl_alloc (Below.refl _ _) _⟩
      · have EX := Lib.hid (show inK a b c d e f 3 = true by have := HX.out; simp [inK, ht] at *; try exact this)
        go_wp2_with (go_at_call 50; refine (s_l6In _ _ _ _).mono ?_; rintro r w' ⟨rfl, rfl⟩)
        go_round
        case rel => exact ⟨3, by omega, rfl, EX.out⟩
        case measure => simp [intOf]
    · cases ht : inB d 0 6
      · have E := Lib.hid (show sixOk a b c d e f = false by simp [sixOk, tdB, ht])
        go_wp2_with (go_at_call 50; refine (s_l6In _ _ _ _).mono ?_; rintro r w' ⟨rfl, rfl⟩)
        go_ret
        exact ⟨ret_bool (by rw [E.out]), bl_alloc (Below.refl _ _) _⟩
      · have EX := Lib.hid (show inK a b c d e f 4 = true by have := HX.out; simp [inK, ht] at *; try exact this)
        go_wp2_with (go_at_call 50; refine (s_l6In _ _ _ _).mono ?_; rintro r w' ⟨rfl, rfl⟩)
        go_round
        case rel => exact ⟨4, by omega, rfl, EX.out⟩
        case measure => simp [intOf]
    · cases ht : inB e 0 6
      · have E := Lib.hid (show sixOk a b c d e f = false by simp [sixOk, tdB, ht])
        go_wp2_with (go_at_call 50; refine (s_l6In _ _ _ _).mono ?_; rintro r w' ⟨rfl, rfl⟩)
        go_ret
        exact ⟨ret_bool (by rw [E.out]), bl_alloc (Below.refl _ _) _⟩
      · have EX := Lib.hid (show inK a b c d e f 5 = true by have := HX.out; simp [inK, ht] at *; try exact this)
        go_wp2_with (go_at_call 50; refine (s_l6In _ _ _ _).mono ?_; rintro r w' ⟨rfl, rfl⟩)
        go_round
        case rel => exact ⟨5, by omega, rfl, EX.out⟩
        case measure => simp [intOf]
    · cases ht : inB f 0 6
      · have E := Lib.hid (show sixOk a b c d e f = false by simp [sixOk, tdB, ht])
        go_wp2_with (go_at_call 50; refine (s_l6In _ _ _ _).mono ?_; rintro r w' ⟨rfl, rfl⟩)
        go_ret
        exact ⟨ret_bool (by rw [E.out]), bl_alloc (Below.refl _ _) _⟩
      · have EX := Lib.hid (show inK a b c d e f 6 = true by have := HX.out; simp [inK, ht] at *; try exact this)
        go_wp2_with (go_at_call 50; refine (s_l6In _ _ _ _).mono ?_; rintro r w' ⟨rfl, rfl⟩)
        go_round
        case rel => exact ⟨6, by omega, rfl, EX.out⟩
        case measure => simp [intOf]
    · have E := Lib.hid (sixOk_eq a b c d e f HX.out)
      clear HX
      go_wp2_with (go_at_call 51; refine (s_SpinTriangle _ _ _ _).mono ?_; rintro r w' ⟨rfl, rfl⟩)
      all_goals go_ret
      all_goals exact ⟨ret_bool (by rw [E.out]; simp [*]), bl_alloc (Below.refl _ _) _⟩

def sumK (gs : List Int) (k : Nat) : Int := (gs.take k).sum
theorem sumK_succ (gs : List Int) (k : Nat) (h : k < gs.length) : sumK gs (k + 1) = sumK gs k + gs.getD k 0 := by
  unfold sumK
  rw [List.take_succ_eq_append_getElem h, List.sum_append]
  simp [List.getD_eq_getElem?_getD, List.getElem?_eq_getElem h]
theorem sumK_bd {gs : List Int} (h : ∀ k, -100 ≤ gs.getD k 0 ∧ gs.getD k 0 ≤ 100) : ∀ k : Nat, k ≤ gs.length → -(100 * (k : Int)) ≤ sumK gs k ∧ sumK gs k ≤ 100 * (k : Int)
  | 0, _ => by simp [sumK]
  | k + 1, hk => by
    have := sumK_bd h k (by omega)
    have h2 := h k
    rw [sumK_succ gs k (by omega)]
    omega
def nnK (gs : List Int) (k : Nat) : Bool := (gs.take k).all (fun g => decide (0 ≤ g))
theorem nnK_succ (gs : List Int) (k : Nat) (h : k < gs.length) : nnK gs (k + 1) = (nnK gs k && decide (0 ≤ gs.getD k 0)) := by
  unfold nnK
  rw [List.take_succ_eq_append_getElem h, List.all_append]
  simp [List.getD_eq_getElem?_getD, List.getElem?_eq_getElem h]
theorem nn_all {gs : List Int} {k : Nat} (h : k < gs.length) (hn : gs.getD k 0 < 0) : gs.all (fun g => decide (0 ≤ g)) = false := by
  cases hh : gs.all (fun g => decide (0 ≤ g))
  · rfl
  · rw [List.all_eq_true] at hh
    have := of_decide_eq_true (hh (gs.getD k 0) (by rw [List.getD_eq_getElem?_getD, List.getElem?_eq_getElem h]; exact List.getElem_mem _))
    omega

set_option maxRecDepth 100000 in
set_option maxHeartbeats 2000000 in
theorem s_l23Ways (g n : Nat) (gs : List Int) (w : World) (hn : gs.length = n) (hn2 : n ≤ 20) (hc : ∀ i, i < n → w.cell? ⟨g, i, none⟩ = some (.int .i64 (gs.getD i 0))) (hb : ∀ k, -100 ≤ gs.getD k 0 ∧ gs.getD k 0 ≤ 100) (hs : gs.sum ≤ 12) :
    Calls Try.prog 69 #[.slice (some ⟨g, 0, none⟩) n n] w fun r w' => r = .returned (.int .i64 (wyI gs)) ∧ w = w' := by
  have HC := Lib.hid hc
  have HB := Lib.hid hb
  have HN := Lib.hid hn
  have HS := Lib.hid hs
  clear hc hb hn hs
  go_enter Try.func69, Try.ntmps69
  go_wp2_with fail
  go_loop [3, 4] (fun l i => ∃ k : Nat, k ≤ n ∧ i = .int .i64 k ∧ l = .int .i64 (sumK gs k) ∧ nnK gs k = true) (fun _ i => n - (intOf i).toNat)
  case atStart => exact ⟨0, by omega, rfl, rfl, rfl⟩
  case round =>
    obtain ⟨k, hk, rfl, rfl, hnn⟩ := hrel
    have HNN := Lib.hid hnn
    clear hnn
    obtain ⟨b0, b1⟩ := sumK_bd HB.out k (by rw [HN.out]; exact hk)
    by_cases hlt : k < n
    · have cc := HC.out k hlt
      obtain ⟨g0, g1⟩ := HB.out k
      have ES := Lib.hid (sumK_succ gs k (by rw [HN.out]; exact hlt))
      have EN := Lib.hid (nnK_succ gs k (by rw [HN.out]; exact hlt))
      have EA : Hid (gs.getD k 0 < 0 → gs.all (fun g => decide (0 ≤ g)) = false) := Lib.hid (fun h => nn_all (by rw [HN.out]; exact hlt) h)
      generalize gs.getD k 0 = x at *
      generalize sumK gs k = y at *
      by_cases hx : x < 0
      · have E := Lib.hid (show wyI gs = 0 by simp only [wyI, EA.out hx]; rfl)
        go_wp2_with fail
        go_ret
        exact ⟨ret_int (by rw [E.out]), rfl⟩
      · have EN2 := Lib.hid (show nnK gs (k + 1) = true by rw [EN.out, HNN.out]; simp; omega)
        go_wp2_with fail
        go_round
        case rel => exact ⟨k + 1, by omega, by go_num, by rw [ES.out], EN2.out⟩
        case measure => simp [intOf]; omega
    · obtain rfl : k = n := by omega
      have EA := Lib.hid (show gs.all (fun g => decide (0 ≤ g)) = true by have := HNN.out; unfold nnK at this; rw [List.take_of_length_le (by rw [HN.out]; omega)] at this; exact this)
      have E := Lib.hid (show wyI gs = (wySt gs k).1 by unfold wyI; rw [EA.out, HN.out]; rfl)
      have E0 : sumK gs k = (wySt gs 0).2 := by unfold sumK; rw [List.take_of_length_le (by rw [HN.out]; omega)]; rfl
      rw [E0]
      clear E0 b0 b1 hlt
      go_wp2_with fail
      go_loop [3, 5, 6] (fun l o i => ∃ j : Nat, j ≤ k ∧ i = .int .i64 j ∧ l = .int .i64 (wySt gs j).2 ∧ o = .int .i64 (wySt gs j).1) (fun _ _ i => k - (intOf i).toNat)
      case atStart => exact ⟨0, by omega, rfl, rfl, rfl⟩
      case round =>
        obtain ⟨j, hj, rfl, rfl, rfl⟩ := hrel
        by_cases hlt2 : j < k
        · have cc := HC.out j hlt2
          obtain ⟨g0, g1⟩ := HB.out j
          obtain ⟨⟨l0, l1⟩, o0, o1⟩ := wy_le EA.out HS.out j (by rw [HN.out]; exact hj)
          obtain ⟨_, p0, p1⟩ := wy_le EA.out HS.out (j + 1) (by rw [HN.out]; omega)
          have e1 : (wySt gs (j + 1)).1 = (wySt gs j).1 * chooseI (wySt gs j).2 (gs.getD j 0) := rfl
          have e2 : (wySt gs (j + 1)).2 = (wySt gs j).2 - gs.getD j 0 := rfl
          rw [e1] at p0 p1
          have E1 := Lib.hid e1
          have E2 := Lib.hid e2
          clear e1 e2
          generalize (wySt gs j).1 = x at *
          generalize (wySt gs j).2 = y at *
          generalize gs.getD j 0 = z at *
          go_wp2_with (go_at_call 66; refine (s_Choose _ _ _).mono ?_; rintro r w' ⟨rfl, rfl⟩)
          go_round
          case rel => exact ⟨j + 1, by omega, by go_num, by rw [E2.out], by rw [E1.out]⟩
          case measure => simp [intOf]; omega
        · obtain rfl : j = k := by omega
          go_wp2_with fail
          go_ret
          exact ⟨ret_int (by rw [E.out]), rfl⟩

theorem wyI_bd {gs : List Int} (hs : gs.sum ≤ 12) : 0 ≤ wyI gs ∧ wyI gs ≤ 6227020800 := by
  unfold wyI
  split
  · rename_i h
    exact (wy_le h hs gs.length (Nat.le_refl _)).2
  · omega

theorem gr_sum {a b c d e f : Int} (h : sixOk a b c d e f = true) (t : Int) : (grL a b c d e f t).sum = t := by
  have t1 := tdB_iff.1 (sixOk_iff.1 h).1
  have t2 := tdB_iff.1 (sixOk_iff.1 h).2.1
  have t3 := tdB_iff.1 (sixOk_iff.1 h).2.2.1
  have t4 := tdB_iff.1 (sixOk_iff.1 h).2.2.2
  simp only [grL, List.sum_cons, List.sum_nil]
  omega
theorem s2T_bd {a b c d e f t : Int} (h : sixOk a b c d e f = true) (h0 : 0 ≤ t) (h1 : t ≤ 12) : 0 ≤ s2T a b c d e f t ∧ s2T a b c d e f t ≤ 80951270400 := by
  have hb := wyI_bd (gs := grL a b c d e f t) (by rw [gr_sum h]; exact h1)
  unfold s2T
  exact ⟨Int.mul_nonneg (by omega) hb.1, Int.le_trans (Int.mul_le_mul (show t + 1 ≤ 13 by omega) hb.2 hb.1 (by omega)) (by omega)⟩
theorem s2S_bd {a b c d e f : Int} (h : sixOk a b c d e f = true) : ∀ k : Nat, k ≤ 13 → -(80951270400 * (k : Int)) ≤ s2S a b c d e f k ∧ s2S a b c d e f k ≤ 80951270400 * (k : Int)
  | 0, _ => by simp [s2S]
  | k + 1, hk => by
    have h1 := s2S_bd h k (by omega)
    have h2 := s2T_bd (t := (k : Int)) h (by omega) (by omega)
    show -(80951270400 * ((k + 1 : Nat) : Int)) ≤ s2S a b c d e f k + sgT (k : Int) (s2T a b c d e f (k : Int)) ∧ s2S a b c d e f k + sgT (k : Int) (s2T a b c d e f (k : Int)) ≤ 80951270400 * ((k + 1 : Nat) : Int)
    generalize s2T a b c d e f (k : Int) = x at *
    generalize s2S a b c d e f k = y at *
    unfold sgT
    split <;> omega
theorem gr_bd {a b c d e f t : Int} (h : sixOk a b c d e f = true) (h0 : 0 ≤ t) (h1 : t ≤ 12) (k : Nat) : -100 ≤ (grL a b c d e f t).getD k 0 ∧ (grL a b c d e f t).getD k 0 ≤ 100 := by
  have t1 := tdB_iff.1 (sixOk_iff.1 h).1
  have t2 := tdB_iff.1 (sixOk_iff.1 h).2.1
  have t3 := tdB_iff.1 (sixOk_iff.1 h).2.2.1
  have t4 := tdB_iff.1 (sixOk_iff.1 h).2.2.2
  rcases (by omega : k = 0 ∨ k = 1 ∨ k = 2 ∨ k = 3 ∨ k = 4 ∨ k = 5 ∨ k = 6 ∨ 7 ≤ k) with rfl | rfl | rfl | rfl | rfl | rfl | rfl | hk
  case inr.inr.inr.inr.inr.inr.inr =>
    rw [List.getD_eq_getElem?_getD, List.getElem?_eq_none (by simp [grL]; omega)]
    simp
  all_goals (simp only [grL, List.getD_cons_zero, List.getD_cons_succ]; omega)

set_option maxRecDepth 100000 in
set_option maxHeartbeats 3000000 in
theorem s_SixSum (a b c d e f : Int) (w : World) :
    Calls Try.prog 54 #[.int .i64 a, .int .i64 b, .int .i64 c, .int .i64 d, .int .i64 e, .int .i64 f] w fun r w' => r = .returned (.int .i64 (sixI a b c d e f)) ∧ Below w.heap.size w w' := by
  cases hok : sixOk a b c d e f
  · have E := Lib.hid (show sixI a b c d e f = 0 by simp [sixI, hok])
    go_enter Try.func54, Try.ntmps54
    go_wp2_with fail
    refine (s_l23Ok _ _ _ _ _ _ _).mono ?_
    rintro r w1 ⟨rfl, hb1⟩
    rw [hok]
    go_wp2_with fail
    go_ret
    exact ⟨ret_int (by rw [E.out]), hb1⟩
  have E := Lib.hid (show s2S a b c d e f 13 = sixI a b c d e f by have := allS_of okSame_all hok; simpa [okSame] using this)
  have t1 := tdB_iff.1 (sixOk_iff.1 hok).1
  have t2 := tdB_iff.1 (sixOk_iff.1 hok).2.1
  have t3 := tdB_iff.1 (sixOk_iff.1 hok).2.2.1
  have t4 := tdB_iff.1 (sixOk_iff.1 hok).2.2.2
  have OK := Lib.hid hok
  have a1 := t1.1
  have b1 := t1.2.1
  have c1 := t1.2.2.1
  have e1 := t2.2.1
  have f1 := t2.2.2.1
  have d1 := t3.1
  clear t1 t2 t3 t4
  go_enter Try.func54, Try.ntmps54
  go_wp2_with fail
  refine (s_l23Ok _ _ _ _ _ _ _).mono ?_
  rintro r w1 ⟨rfl, hb1⟩
  rw [hok]
  have B1 := Lib.hid hb1
  clear hb1 hok
  go_wp2_with fail
  go_loopw [13, 14, 15, 16] (fun s i _ _ wr => ∃ k : Nat, k ≤ 13 ∧ i = .int .i64 k ∧ s = .int .i64 (s2S a b c d e f k) ∧ Below w1.heap.size w1 wr) (fun _ i _ _ _ => 13 - (intOf i).toNat)
  case atStart => exact ⟨0, by omega, rfl, rfl, Below.refl _ _⟩
  case round =>
    obtain ⟨k, hk, rfl, rfl, hnx⟩ := hrel
    have HN := Lib.hid hnx
    clear hnx
    obtain ⟨x0, x1⟩ := s2S_bd OK.out k hk
    by_cases hlt : k ≤ 12
    · obtain ⟨y0, y1⟩ := s2T_bd (t := (k : Int)) OK.out (by omega) (by omega)
      have EN := Lib.hid (show s2S a b c d e f (k + 1) = s2S a b c d e f k + sgT (k : Int) (((k : Int) + 1) * wyI (grL a b c d e f (k : Int))) from rfl)
      have EY := Lib.hid (show s2T a b c d e f (k : Int) = ((k : Int) + 1) * wyI (grL a b c d e f (k : Int)) from rfl)
      rw [EY.out] at y0 y1
      have HG := Lib.hid (s_l23Ways wr.heap.size 7 (grL a b c d e f (k : Int)) (wr.alloc (.cells #[.int .i64 ((k : Int) - (a + b + c) / 2), .int .i64 ((k : Int) - (a + e + f) / 2), .int .i64 ((k : Int) - (d + b + f) / 2), .int .i64 ((k : Int) - (d + e + c) / 2), .int .i64 ((a + b + d + e) / 2 - (k : Int)), .int .i64 ((b + c + e + f) / 2 - (k : Int)), .int .i64 ((a + c + d + f) / 2 - (k : Int))] 3)) rfl (by omega) (by
        intro i hi
        rcases (by omega : i = 0 ∨ i = 1 ∨ i = 2 ∨ i = 3 ∨ i = 4 ∨ i = 5 ∨ i = 6) with rfl | rfl | rfl | rfl | rfl | rfl | rfl
        all_goals simp [grL]) (gr_bd OK.out (by omega) (by omega)) (by rw [gr_sum OK.out]; omega))
      generalize s2S a b c d e f k = S at *
      go_wp2_with fail
      refine HG.out.mono ?_
      rintro r w2 ⟨rfl, rfl⟩
      generalize wyI (grL a b c d e f (k : Int)) = Y at *
      by_cases hp : (k : Int) % 2 = 1
      · have hp1 : ((k : Int) % 2 == 1) = true := by simp [hp]
        have EP := Lib.hid (show sgT (k : Int) (((k : Int) + 1) * Y) = -(((k : Int) + 1) * Y) by simp [sgT, hp])
        clear hp
        go_wp2_with fail
        go_roundw
        case rel => exact ⟨k + 1, by omega, by go_num, by rw [EN.out, EP.out], bl_alloc HN.out _⟩
        case measure => simp [intOf]; omega
      · have hp1 : ((k : Int) % 2 == 1) = false := by simp [hp]
        have EP := Lib.hid (show sgT (k : Int) (((k : Int) + 1) * Y) = ((k : Int) + 1) * Y by simp [sgT, hp])
        clear hp
        go_wp2_with fail
        go_roundw
        case rel => exact ⟨k + 1, by omega, by go_num, by rw [EN.out, EP.out], bl_alloc HN.out _⟩
        case measure => simp [intOf]; omega
    · obtain rfl : k = 13 := by omega
      go_wp2_with fail
      go_ret
      exact ⟨ret_int (by rw [← E.out]), btr B1.out HN.out⟩

end Go.Proofs.Ytneihommpncegaa
