/- Contracts of the functions on rationals. -/
import Derived.Test.YtdhmjmnpaigagaaA
import Derived.Test.YtdhmjmnpaigagaaPq
import Derived.RegionTactic
import Derived.ChangeAlike
import Derived.Deep.QuietTactic
import Derived.BigQuiet
namespace Go.Proofs.Ytdhmjmnpaigagaa
open Go.RowKit

def RInt (w : World) (x : Int) (e : Ending) (w' : World) : Prop := e = .returned (.int .i64 x) ∧ Below w.heap.size w w'
def RBool (w : World) (x : Bool) (e : Ending) (w' : World) : Prop := e = .returned (.bool x) ∧ Below w.heap.size w w'
def RRat (w : World) (x : Int × Int × Bool) (e : Ending) (w' : World) : Prop := e = .returned (rv x) ∧ Below w.heap.size w w'

set_option maxHeartbeats 400000 in
theorem s_l1Gcd (a b : Int) (w : World) (a0 : 0 ≤ a) (a1 : a ≤ 9223372036854775807) (b0 : 0 ≤ b) (b1 : b ≤ 9223372036854775807) :
    Calls Try.prog 46 #[.int .i64 a, .int .i64 b] w fun e w' => e = .returned (.int .i64 (gcdI a b)) ∧ w = w' := by
  go_enter Try.func46, Try.ntmps46
  go_wp2
  go_loop [0, 1] (fun x y => ∃ p q : Int, (0 ≤ p ∧ p ≤ 9223372036854775807) ∧ (0 ≤ q ∧ q ≤ 9223372036854775807) ∧ x = .int .i64 p ∧ y = .int .i64 q ∧ Hid (gcdI p q = gcdI a b)) (fun _ y => (intOf y).toNat)
  case atStart => exact ⟨a, b, ⟨a0, a1⟩, ⟨b0, b1⟩, rfl, rfl, rfl⟩
  case round =>
    obtain ⟨p, q, ⟨p0, p1⟩, ⟨q0, q1⟩, rfl, rfl, hg⟩ := hrel
    by_cases hq : q = 0
    · subst hq
      have G := Lib.hid (show gcdI a b = p by rw [← hg.out, gcdI_zero p0])
      go_wp2
      go_ret
      exact ⟨ret_int (by rw [G.out]), rfl⟩
    · have hq' : (q != 0) = true := by simp [hq]
      have hq2 : (q == 0) = false := by simp [hq]
      have m0 : 0 ≤ p % q := Int.emod_nonneg _ hq
      have m1 : p % q < q := Int.emod_lt_of_pos _ (by omega)
      have G : Hid (gcdI q (p % q) = gcdI a b) := by
        have := gcdI_step p q
        rw [Int.tmod_eq_emod_of_nonneg p0] at this
        exact this.trans hg.out
      clear hg hq
      go_wp2
      go_round
      case rel => exact ⟨q, p % q, by omega, by omega, rfl, rfl, G⟩
      case measure => simp [intOf]; omega

set_option maxHeartbeats 400000 in
theorem i_divisor (a b : Int) (w : World) (a0 : -9223372036854775807 ≤ a) (a1 : a ≤ 9223372036854775807) (b0 : -9223372036854775807 ≤ b) (b1 : b ≤ 9223372036854775807) :
    Calls Try.prog 51 #[.int .i64 a, .int .i64 b] w (RInt w (gcdI a b)) := by
  have A0 : 0 ≤ absI a := by unfold absI; omega
  have A1 : absI a ≤ 9223372036854775807 := by unfold absI; omega
  have B0 : 0 ≤ absI b := by unfold absI; omega
  have B1 : absI b ≤ 9223372036854775807 := by unfold absI; omega
  go_enter Try.func51, Try.ntmps51
  go_wp2_with (go_at_call 55; refine (i_abs _ _ (by omega) (by omega)).mono ?_; rintro e w' ⟨rfl, rfl⟩)
  go_loopw [0, 1] (fun x y wr => ∃ p q : Int, (0 ≤ p ∧ p ≤ 9223372036854775807) ∧ (0 ≤ q ∧ q ≤ 9223372036854775807) ∧ x = .int .i64 p ∧ y = .int .i64 q ∧ Hid (gcdI p q = gcdI a b) ∧ Below w.heap.size w wr) (fun _ y _ => (intOf y).toNat)
  case atStart => exact ⟨absI a, absI b, ⟨A0, A1⟩, ⟨B0, B1⟩, rfl, rfl, gcdI_abs a b, Below.refl _ _⟩
  case round =>
    obtain ⟨p, q, ⟨p0, p1⟩, ⟨q0, q1⟩, rfl, rfl, hg, hb⟩ := hrel
    by_cases hq : q = 0
    · subst hq
      have G := Lib.hid (show gcdI a b = p by rw [← hg.out, gcdI_zero p0])
      go_wp2
      go_ret
      exact ⟨ret_int (by rw [G.out]), hb⟩
    · have hq' : (q != 0) = true := by simp [hq]
      have hq2 : (q == 0) = false := by simp [hq]
      have m0 : 0 ≤ p % q := Int.emod_nonneg _ hq
      have m1 : p % q < q := Int.emod_lt_of_pos _ (by omega)
      have G : Hid (gcdI q (p % q) = gcdI a b) := by
        have := gcdI_step p q
        rw [Int.tmod_eq_emod_of_nonneg p0] at this
        exact this.trans hg.out
      clear hg hq
      go_wp2
      go_region
      go_roundw
      case rel => first | exact ⟨q, p % q, by omega, by omega, rfl, rfl, G, hb.drew⟩ | ((repeat apply Exists.intro); exact ⟨⟨q, p % q, by omega, by omega, rfl, rfl, G, hb.drew⟩, rfl⟩)
      case measure => simp [intOf]; omega

theorem bcell {W w1 : World} (hb : Below W.heap.size W w1) : (∀ b o, b < W.heap.size → w1.cell? ⟨b, o, none⟩ = W.cell? ⟨b, o, none⟩) ∧ (∀ b o, b < W.heap.size → w1.frozen? ⟨b, o, none⟩ = W.frozen? ⟨b, o, none⟩) :=
  ⟨fun b o h => hb.cell (p := ⟨b, o, none⟩) h, fun b o h => hb.frozen (p := ⟨b, o, none⟩) h⟩

set_option maxHeartbeats 400000 in
theorem i_RatValid (n d : Int) (w : World) :
    Calls Try.prog 38 #[.agg #[.int .i64 n, .int .i64 d]] w (RBool w (ratB n d)) := by
  by_cases hr : (1 ≤ d ∧ d ≤ 1000000000) ∧ (-1000000000 ≤ n ∧ n ≤ 1000000000)
  · obtain ⟨⟨d0, d1⟩, n0, n1⟩ := hr
    have e : ratB n d = decide (gcdI n d = 1) := by simp [ratB, inB, d0, d1, n0, n1]
    have E := Lib.hid e
    clear e
    go_enter Try.func38, Try.ntmps38
    go_wp2_with fail
    refine (i_divisor _ _ _ (by omega) (by omega) (by omega) (by omega)).mono ?_
    rintro e w1 ⟨rfl, hb⟩
    go_wp2_with fail
    go_ret
    refine ⟨ret_bool ?_, btr (bl_alloc (Below.refl _ _) _) hb⟩
    rw [E.out, Bool.eq_iff_iff]; simp
  · have e : ratB n d = false := by
      cases h : ratB n d
      · rfl
      · exact absurd (ratB_iff.1 h) (fun h => hr ⟨h.1, h.2.1⟩)
    have E := Lib.hid e
    clear e
    by_cases h1 : 1 ≤ d
    · by_cases h2 : d ≤ 1000000000
      · by_cases h3 : -1000000000 ≤ n
        · have h4 : 1000000000 < n := by omega
          clear hr
          go_enter Try.func38, Try.ntmps38
          go_wp2_with fail
          go_ret
          exact ⟨ret_bool (by rw [E.out]), bl_alloc (Below.refl _ _) _⟩
        · clear hr
          go_enter Try.func38, Try.ntmps38
          go_wp2_with fail
          go_ret
          exact ⟨ret_bool (by rw [E.out]), bl_alloc (Below.refl _ _) _⟩
      · clear hr
        go_enter Try.func38, Try.ntmps38
        go_wp2_with fail
        go_ret
        exact ⟨ret_bool (by rw [E.out]), bl_alloc (Below.refl _ _) _⟩
    · clear hr
      go_enter Try.func38, Try.ntmps38
      go_wp2_with fail
      go_ret
      exact ⟨ret_bool (by rw [E.out]), bl_alloc (Below.refl _ _) _⟩

theorem quiet_left {P : Program} {f : FuncId} {args : Array Value} {w : World} {n : Nat} {v : Value}
    (h : Calls P f args (w.drewN n) fun e w' => e = .returned v ∧ w.drewN n = w') : Calls P f args (w.drewN n) fun e w'' => e = .returned v ∧ ∃ m, w'' = w.drewN m :=
  h.mono fun _ _ ⟨he, hm⟩ => ⟨he, n, hm.symm⟩

set_option maxHeartbeats 400000 in
theorem s_RatValid (n d : Int) (w : World) :
    Calls Try.prog 45 #[.agg #[.int .i64 n, .int .i64 d]] w (RBool w (ratB n d)) := by
  cases hd : inB d 1 1000000000
  · have E := Lib.hid (show ratB n d = false by simp [ratB, hd])
    go_enter Try.func45, Try.ntmps45
    go_wp2_with (go_at_call 23; refine (s_l6In _ _ _ _).mono ?_; rintro e w' ⟨rfl, rfl⟩)
    go_ret
    exact ⟨ret_bool (by rw [E.out]), bl_alloc (Below.refl _ _) _⟩
  cases hn : inB n (-1000000000) 1000000000
  · have E := Lib.hid (show ratB n d = false by simp [ratB, hn])
    go_enter Try.func45, Try.ntmps45
    go_wp2_with (go_at_call 23; refine (s_l6In _ _ _ _).mono ?_; rintro e w' ⟨rfl, rfl⟩)
    go_ret
    exact ⟨ret_bool (by rw [E.out]), bl_alloc (Below.refl _ _) _⟩
  have E := Lib.hid (show ratB n d = decide (gcdI (absI n) d = 1) by
    have := inB_iff.1 hd
    have e : gcdI (absI n) d = gcdI n d := by
      have h := gcdI_abs n d
      rw [show absI d = d by unfold absI; split <;> omega] at h
      exact h
    rw [e]; simp [ratB, hd, hn])
  obtain ⟨d0, d1⟩ := inB_iff.1 hd
  obtain ⟨n0, n1⟩ := inB_iff.1 hn
  have A0 : 0 ≤ absI n := by unfold absI; omega
  have A1 : absI n ≤ 1000000000 := by unfold absI; omega
  go_enter Try.func45, Try.ntmps45
  go_wp2_with (go_at_call 23; refine (s_l6In _ _ _ _).mono ?_; rintro e w' ⟨rfl, rfl⟩)
  go_quiet ((first | (go_at_call 41; exact quiet_left (s_l1Abs _ _ (by omega) (by omega))) | (go_at_call 46; exact quiet_left (s_l1Gcd _ _ _ (by omega) (by omega) (by omega) (by omega)))))
  go_wp2_with fail
  go_ret
  refine ⟨ret_bool ?_, bl_drewN (bl_alloc (Below.refl _ _) _) _⟩
  rw [E.out, Bool.eq_iff_iff]; simp

set_option maxHeartbeats 400000 in
theorem i_RatOf (n d : Int) (w : World) :
    Calls Try.prog 39 #[.int .i64 n, .int .i64 d] w (RRat w (ratOf n d)) := by
  by_cases hr : d ≠ 0 ∧ (-4000000000000000000 ≤ n ∧ n ≤ 4000000000000000000) ∧ (-4000000000000000000 ≤ d ∧ d ≤ 4000000000000000000)
  · obtain ⟨dn, ⟨n0, n1⟩, d0, d1⟩ := hr
    have hb : bigB n d = true := by simp [bigB, inB, dn, n0, n1, d0, d1]
    have dz : (d == 0) = false := by simp [dn]
    have E := Lib.hid (show ratOf n d = mkR n d by simp [ratOf, hb])
    have gp := gcdI_pos (a := n) dn
    clear hb
    have gl := gcdI_le (a := n) dn
    have gl2 : gcdI n d ≤ 4000000000000000000 := Int.le_trans gl (by unfold absI; split <;> omega)
    clear gl
    by_cases hs : d < 0
    · have M := Lib.hid (show mkR n d = if ratB (-n.tdiv (gcdI n d)) (-d.tdiv (gcdI n d)) = true then (-n.tdiv (gcdI n d), -d.tdiv (gcdI n d), true) else (0, 0, false) by simp [mkR, mkN, mkD, hs])
      obtain ⟨t1, t2⟩ := tdiv_bd (g := gcdI n d) (M := 4000000000000000000) n0 n1
      obtain ⟨t3, t4⟩ := tdiv_bd (g := gcdI n d) (M := 4000000000000000000) d0 d1
      go_enter Try.func39, Try.ntmps39
      go_wp2_with fail
      refine (i_divisor _ _ _ (by omega) (by omega) (by omega) (by omega)).mono ?_
      rintro e w1 ⟨rfl, hb1⟩
      have Kw1_r : Blk w1 (w.heap.size) #[.int .i64 0, .int .i64 0] := blk_later hb1 (blk_new (by simp))
      obtain ⟨w1_c0_r, w1_c1_r, w1_f0_r, w1_f1_r⟩ := blk2 Kw1_r
      have Kw1_rH := Lib.hid Kw1_r
      have w1_l_r := Kw1_r.lt
      have w1_m_r : w.heap.size < w1.heap.size + 1 := by omega
      have w1z := hb1.size
      try simp at w1z
      have w1B := Lib.hid hb1
      clear Kw1_r
      clear hb1
      generalize gcdI n d = g at *
      go_wp2_with fail
      go_region
      generalize -n.tdiv g = N at *
      generalize -d.tdiv g = D at *
      go_wp2_with fail
      refine (i_RatValid _ _ _).mono ?_
      rintro e w2 ⟨rfl, hb2⟩
      have Kw2_r : Blk w2 (w.heap.size) #[.int .i64 0, .int .i64 0] := blk_later hb2 (blk_drew (blk_alloc Kw1_rH.out (.cells #[.int .i64 N, .int .i64 D] 23)))
      have Kw2_x : Blk w2 (w1.heap.size) #[.int .i64 N, .int .i64 D] := blk_later hb2 (blk_drew (blk_new (by simp)))
      obtain ⟨w2_c0_r, w2_c1_r, w2_f0_r, w2_f1_r⟩ := blk2 Kw2_r
      have Kw2_rH := Lib.hid Kw2_r
      have w2_l_r := Kw2_r.lt
      have w2_m_r : w.heap.size < w2.heap.size + 1 := by omega
      obtain ⟨w2_c0_x, w2_c1_x, w2_f0_x, w2_f1_x⟩ := blk2 Kw2_x
      have Kw2_xH := Lib.hid Kw2_x
      have w2_l_x := Kw2_x.lt
      have w2_m_x : w1.heap.size < w2.heap.size + 1 := by omega
      have w2z := hb2.size
      try simp at w2z
      have w2B := Lib.hid hb2
      clear Kw2_r Kw2_x
      clear hb2
      cases hv : ratB N D
      · have X := Lib.hid (show ratOf n d = (0, 0, false) by rw [E.out, M.out, hv]; rfl)
        go_wp2_with fail
        refine bodyPost_ret (v := rv (0, 0, false)) ?_ rfl ?_
        · have KR : Blk _ (w.heap.size) #[.int .i64 0, .int .i64 0] := (blk_set (blk_set Kw2_rH.out 0 (.int .i64 0)) 1 (.int .i64 0))
          obtain ⟨r0, r1, _, _⟩ := blk2 KR
          simp [results, Try.results39, go_sem, rv, r0, r1]
        · exact ⟨by rw [X.out], by (repeat' (first | exact Below.refl _ _ | refine bl_out ?_ (by assumption) | exact (Hid.out (by assumption)) | refine bl_alloc ?_ _ | refine bl_drewN ?_ _ | refine bl_drew ?_ | refine bl_set ?_ ?_ _ | omega | (simp; done) | (simp; omega)))⟩
      · have X := Lib.hid (show ratOf n d = (N, D, true) by rw [E.out, M.out, hv]; rfl)
        go_wp2_with fail
        refine bodyPost_ret (v := rv (N, D, true)) ?_ rfl ?_
        · have KR : Blk _ (w.heap.size) #[.int .i64 N, .int .i64 D] := (blk_set (blk_set Kw2_rH.out 0 (.int .i64 N)) 1 (.int .i64 D))
          obtain ⟨r0, r1, _, _⟩ := blk2 KR
          simp [results, Try.results39, go_sem, rv, r0, r1]
        · exact ⟨by rw [X.out], by (repeat' (first | exact Below.refl _ _ | refine bl_out ?_ (by assumption) | exact (Hid.out (by assumption)) | refine bl_alloc ?_ _ | refine bl_drewN ?_ _ | refine bl_drew ?_ | refine bl_set ?_ ?_ _ | omega | (simp; done) | (simp; omega)))⟩
    · have M := Lib.hid (show mkR n d = if ratB (n.tdiv (gcdI n d)) (d.tdiv (gcdI n d)) = true then (n.tdiv (gcdI n d), d.tdiv (gcdI n d), true) else (0, 0, false) by simp [mkR, mkN, mkD, hs])
      obtain ⟨t1, t2⟩ := tdiv_bd (g := gcdI n d) (M := 4000000000000000000) n0 n1
      obtain ⟨t3, t4⟩ := tdiv_bd (g := gcdI n d) (M := 4000000000000000000) d0 d1
      go_enter Try.func39, Try.ntmps39
      go_wp2_with fail
      refine (i_divisor _ _ _ (by omega) (by omega) (by omega) (by omega)).mono ?_
      rintro e w1 ⟨rfl, hb1⟩
      have Kw1_r : Blk w1 (w.heap.size) #[.int .i64 0, .int .i64 0] := blk_later hb1 (blk_new (by simp))
      obtain ⟨w1_c0_r, w1_c1_r, w1_f0_r, w1_f1_r⟩ := blk2 Kw1_r
      have Kw1_rH := Lib.hid Kw1_r
      have w1_l_r := Kw1_r.lt
      have w1_m_r : w.heap.size < w1.heap.size + 1 := by omega
      have w1z := hb1.size
      try simp at w1z
      have w1B := Lib.hid hb1
      clear Kw1_r
      clear hb1
      generalize gcdI n d = g at *
      go_wp2_with fail
      go_region
      generalize n.tdiv g = N at *
      generalize d.tdiv g = D at *
      go_wp2_with fail
      refine (i_RatValid _ _ _).mono ?_
      rintro e w2 ⟨rfl, hb2⟩
      have Kw2_r : Blk w2 (w.heap.size) #[.int .i64 0, .int .i64 0] := blk_later hb2 (blk_drew (blk_alloc Kw1_rH.out (.cells #[.int .i64 N, .int .i64 D] 23)))
      have Kw2_x : Blk w2 (w1.heap.size) #[.int .i64 N, .int .i64 D] := blk_later hb2 (blk_drew (blk_new (by simp)))
      obtain ⟨w2_c0_r, w2_c1_r, w2_f0_r, w2_f1_r⟩ := blk2 Kw2_r
      have Kw2_rH := Lib.hid Kw2_r
      have w2_l_r := Kw2_r.lt
      have w2_m_r : w.heap.size < w2.heap.size + 1 := by omega
      obtain ⟨w2_c0_x, w2_c1_x, w2_f0_x, w2_f1_x⟩ := blk2 Kw2_x
      have Kw2_xH := Lib.hid Kw2_x
      have w2_l_x := Kw2_x.lt
      have w2_m_x : w1.heap.size < w2.heap.size + 1 := by omega
      have w2z := hb2.size
      try simp at w2z
      have w2B := Lib.hid hb2
      clear Kw2_r Kw2_x
      clear hb2
      cases hv : ratB N D
      · have X := Lib.hid (show ratOf n d = (0, 0, false) by rw [E.out, M.out, hv]; rfl)
        go_wp2_with fail
        refine bodyPost_ret (v := rv (0, 0, false)) ?_ rfl ?_
        · have KR : Blk _ (w.heap.size) #[.int .i64 0, .int .i64 0] := (blk_set (blk_set Kw2_rH.out 0 (.int .i64 0)) 1 (.int .i64 0))
          obtain ⟨r0, r1, _, _⟩ := blk2 KR
          simp [results, Try.results39, go_sem, rv, r0, r1]
        · exact ⟨by rw [X.out], by (repeat' (first | exact Below.refl _ _ | refine bl_out ?_ (by assumption) | exact (Hid.out (by assumption)) | refine bl_alloc ?_ _ | refine bl_drewN ?_ _ | refine bl_drew ?_ | refine bl_set ?_ ?_ _ | omega | (simp; done) | (simp; omega)))⟩
      · have X := Lib.hid (show ratOf n d = (N, D, true) by rw [E.out, M.out, hv]; rfl)
        go_wp2_with fail
        refine bodyPost_ret (v := rv (N, D, true)) ?_ rfl ?_
        · have KR : Blk _ (w.heap.size) #[.int .i64 N, .int .i64 D] := (blk_set (blk_set Kw2_rH.out 0 (.int .i64 N)) 1 (.int .i64 D))
          obtain ⟨r0, r1, _, _⟩ := blk2 KR
          simp [results, Try.results39, go_sem, rv, r0, r1]
        · exact ⟨by rw [X.out], by (repeat' (first | exact Below.refl _ _ | refine bl_out ?_ (by assumption) | exact (Hid.out (by assumption)) | refine bl_alloc ?_ _ | refine bl_drewN ?_ _ | refine bl_drew ?_ | refine bl_set ?_ ?_ _ | omega | (simp; done) | (simp; omega)))⟩
  · have hb : bigB n d = false := by
      cases h : bigB n d
      · rfl
      · exfalso; apply hr; simp [bigB, inB] at h; omega
    have E := Lib.hid (show ratOf n d = (0, 0, false) by simp [ratOf, hb])
    clear hb
    by_cases h1 : d = 0
    · subst h1
      clear hr
      go_enter Try.func39, Try.ntmps39
      go_wp2_with fail
      refine bodyPost_ret (v := rv (0, 0, false)) (by simp [results, Try.results39, go_sem, rv]) rfl ⟨by rw [E.out], by (repeat' (first | exact Below.refl _ _ | refine bl_out ?_ (by assumption) | exact (Hid.out (by assumption)) | refine bl_alloc ?_ _ | refine bl_drewN ?_ _ | refine bl_drew ?_ | refine bl_set ?_ ?_ _ | omega | (simp; done) | (simp; omega)))⟩
    have dz : (d == 0) = false := by simp [h1]
    by_cases h2 : n < -4000000000000000000
    · clear hr h1
      go_enter Try.func39, Try.ntmps39
      go_wp2_with fail
      refine bodyPost_ret (v := rv (0, 0, false)) (by simp [results, Try.results39, go_sem, rv]) rfl ⟨by rw [E.out], by (repeat' (first | exact Below.refl _ _ | refine bl_out ?_ (by assumption) | exact (Hid.out (by assumption)) | refine bl_alloc ?_ _ | refine bl_drewN ?_ _ | refine bl_drew ?_ | refine bl_set ?_ ?_ _ | omega | (simp; done) | (simp; omega)))⟩
    by_cases h3 : 4000000000000000000 < n
    · clear hr h1
      go_enter Try.func39, Try.ntmps39
      go_wp2_with fail
      refine bodyPost_ret (v := rv (0, 0, false)) (by simp [results, Try.results39, go_sem, rv]) rfl ⟨by rw [E.out], by (repeat' (first | exact Below.refl _ _ | refine bl_out ?_ (by assumption) | exact (Hid.out (by assumption)) | refine bl_alloc ?_ _ | refine bl_drewN ?_ _ | refine bl_drew ?_ | refine bl_set ?_ ?_ _ | omega | (simp; done) | (simp; omega)))⟩
    by_cases h4 : d < -4000000000000000000
    · clear hr h1
      go_enter Try.func39, Try.ntmps39
      go_wp2_with fail
      refine bodyPost_ret (v := rv (0, 0, false)) (by simp [results, Try.results39, go_sem, rv]) rfl ⟨by rw [E.out], by (repeat' (first | exact Below.refl _ _ | refine bl_out ?_ (by assumption) | exact (Hid.out (by assumption)) | refine bl_alloc ?_ _ | refine bl_drewN ?_ _ | refine bl_drew ?_ | refine bl_set ?_ ?_ _ | omega | (simp; done) | (simp; omega)))⟩
    have h5 : 4000000000000000000 < d := by omega
    clear hr h1
    go_enter Try.func39, Try.ntmps39
    go_wp2_with fail
    refine bodyPost_ret (v := rv (0, 0, false)) (by simp [results, Try.results39, go_sem, rv]) rfl ⟨by rw [E.out], by (repeat' (first | exact Below.refl _ _ | refine bl_out ?_ (by assumption) | exact (Hid.out (by assumption)) | refine bl_alloc ?_ _ | refine bl_drewN ?_ _ | refine bl_drew ?_ | refine bl_set ?_ ?_ _ | omega | (simp; done) | (simp; omega)))⟩

set_option maxHeartbeats 400000 in
theorem s_l1Make (n d : Int) (w : World) (dn : d ≠ 0) (n0 : -4000000000000000000 ≤ n) (n1 : n ≤ 4000000000000000000) (d0 : -4000000000000000000 ≤ d) (d1 : d ≤ 4000000000000000000) :
    Calls Try.prog 29 #[.int .i64 n, .int .i64 d] w (RRat w (mkR n d)) := by
  have gp := gcdI_pos (a := n) dn
  have gl := gcdI_le (a := n) dn
  have gl2 : gcdI n d ≤ 4000000000000000000 := Int.le_trans gl (by unfold absI; split <;> omega)
  clear gl
  have A0 : 0 ≤ absI n := by unfold absI; omega
  have A1 : absI n ≤ 4000000000000000000 := by unfold absI; omega
  have A2 : 0 ≤ absI d := by unfold absI; omega
  have A3 : absI d ≤ 4000000000000000000 := by unfold absI; omega
  have ga := gcdI_abs n d
  by_cases hs : d < 0
  · have M := Lib.hid (show mkR n d = if ratB (-n.tdiv (gcdI n d)) (-d.tdiv (gcdI n d)) = true then (-n.tdiv (gcdI n d), -d.tdiv (gcdI n d), true) else (0, 0, false) by simp [mkR, mkN, mkD, hs])
    obtain ⟨t1, t2⟩ := tdiv_bd (g := gcdI n d) (M := 4000000000000000000) n0 n1
    obtain ⟨t3, t4⟩ := tdiv_bd (g := gcdI n d) (M := 4000000000000000000) d0 d1
    go_enter Try.func29, Try.ntmps29
    go_wp2_with (first | (go_at_call 41; refine (s_l1Abs _ _ (by omega) (by omega)).mono ?_; rintro e w' ⟨rfl, rfl⟩) | (go_at_call 46; refine (s_l1Gcd _ _ _ (by omega) (by omega) (by omega) (by omega)).mono ?_; rintro e w' ⟨rfl, rfl⟩))
    go_region
    generalize -n.tdiv (gcdI n d) = N at *
    generalize -d.tdiv (gcdI n d) = D at *
    go_wp2_with fail
    refine (s_RatValid _ _ _).mono ?_
    rintro e w1 ⟨rfl, hb1⟩
    have Kw1_r : Blk w1 (w.heap.size) #[.int .i64 0, .int .i64 0] := blk_later hb1 (blk_drew (blk_alloc (blk_new (by simp)) (.cells #[.int .i64 N, .int .i64 D] 23)))
    have Kw1_x : Blk w1 (w.heap.size + 1) #[.int .i64 N, .int .i64 D] := blk_later hb1 (blk_drew (blk_new (by simp)))
    obtain ⟨w1_c0_r, w1_c1_r, w1_f0_r, w1_f1_r⟩ := blk2 Kw1_r
    have Kw1_rH := Lib.hid Kw1_r
    have w1_l_r := Kw1_r.lt
    have w1_m_r : w.heap.size < w1.heap.size + 1 := by omega
    obtain ⟨w1_c0_x, w1_c1_x, w1_f0_x, w1_f1_x⟩ := blk2 Kw1_x
    have Kw1_xH := Lib.hid Kw1_x
    have w1_l_x := Kw1_x.lt
    have w1_m_x : w.heap.size + 1 < w1.heap.size + 1 := by omega
    have w1z := hb1.size
    try simp at w1z
    have w1B := Lib.hid hb1
    clear Kw1_r Kw1_x
    clear hb1
    cases hv : ratB N D
    · have X := Lib.hid (show mkR n d = (0, 0, false) by rw [M.out, hv]; rfl)
      go_wp2_with fail
      refine bodyPost_ret (v := rv (0, 0, false)) ?_ rfl ?_
      · have KR : Blk _ (w.heap.size) #[.int .i64 0, .int .i64 0] := (blk_set (blk_set Kw1_rH.out 0 (.int .i64 0)) 1 (.int .i64 0))
        obtain ⟨r0, r1, _, _⟩ := blk2 KR
        simp [results, Try.results29, go_sem, rv, r0, r1]
      · exact ⟨by rw [X.out], by (repeat' (first | exact Below.refl _ _ | refine bl_out ?_ (by assumption) | exact (Hid.out (by assumption)) | refine bl_alloc ?_ _ | refine bl_drewN ?_ _ | refine bl_drew ?_ | refine bl_set ?_ ?_ _ | omega | (simp; done) | (simp; omega)))⟩
    · have X := Lib.hid (show mkR n d = (N, D, true) by rw [M.out, hv]; rfl)
      go_wp2_with fail
      refine bodyPost_ret (v := rv (N, D, true)) ?_ rfl ?_
      · have KR : Blk _ (w.heap.size) #[.int .i64 N, .int .i64 D] := (blk_set (blk_set Kw1_rH.out 0 (.int .i64 N)) 1 (.int .i64 D))
        obtain ⟨r0, r1, _, _⟩ := blk2 KR
        simp [results, Try.results29, go_sem, rv, r0, r1]
      · exact ⟨by rw [X.out], by (repeat' (first | exact Below.refl _ _ | refine bl_out ?_ (by assumption) | exact (Hid.out (by assumption)) | refine bl_alloc ?_ _ | refine bl_drewN ?_ _ | refine bl_drew ?_ | refine bl_set ?_ ?_ _ | omega | (simp; done) | (simp; omega)))⟩
  · have M := Lib.hid (show mkR n d = if ratB (n.tdiv (gcdI n d)) (d.tdiv (gcdI n d)) = true then (n.tdiv (gcdI n d), d.tdiv (gcdI n d), true) else (0, 0, false) by simp [mkR, mkN, mkD, hs])
    obtain ⟨t1, t2⟩ := tdiv_bd (g := gcdI n d) (M := 4000000000000000000) n0 n1
    obtain ⟨t3, t4⟩ := tdiv_bd (g := gcdI n d) (M := 4000000000000000000) d0 d1
    go_enter Try.func29, Try.ntmps29
    go_wp2_with (first | (go_at_call 41; refine (s_l1Abs _ _ (by omega) (by omega)).mono ?_; rintro e w' ⟨rfl, rfl⟩) | (go_at_call 46; refine (s_l1Gcd _ _ _ (by omega) (by omega) (by omega) (by omega)).mono ?_; rintro e w' ⟨rfl, rfl⟩))
    go_region
    generalize n.tdiv (gcdI n d) = N at *
    generalize d.tdiv (gcdI n d) = D at *
    go_wp2_with fail
    refine (s_RatValid _ _ _).mono ?_
    rintro e w1 ⟨rfl, hb1⟩
    have Kw1_r : Blk w1 (w.heap.size) #[.int .i64 0, .int .i64 0] := blk_later hb1 (blk_drew (blk_alloc (blk_new (by simp)) (.cells #[.int .i64 N, .int .i64 D] 23)))
    have Kw1_x : Blk w1 (w.heap.size + 1) #[.int .i64 N, .int .i64 D] := blk_later hb1 (blk_drew (blk_new (by simp)))
    obtain ⟨w1_c0_r, w1_c1_r, w1_f0_r, w1_f1_r⟩ := blk2 Kw1_r
    have Kw1_rH := Lib.hid Kw1_r
    have w1_l_r := Kw1_r.lt
    have w1_m_r : w.heap.size < w1.heap.size + 1 := by omega
    obtain ⟨w1_c0_x, w1_c1_x, w1_f0_x, w1_f1_x⟩ := blk2 Kw1_x
    have Kw1_xH := Lib.hid Kw1_x
    have w1_l_x := Kw1_x.lt
    have w1_m_x : w.heap.size + 1 < w1.heap.size + 1 := by omega
    have w1z := hb1.size
    try simp at w1z
    have w1B := Lib.hid hb1
    clear Kw1_r Kw1_x
    clear hb1
    cases hv : ratB N D
    · have X := Lib.hid (show mkR n d = (0, 0, false) by rw [M.out, hv]; rfl)
      go_wp2_with fail
      refine bodyPost_ret (v := rv (0, 0, false)) ?_ rfl ?_
      · have KR : Blk _ (w.heap.size) #[.int .i64 0, .int .i64 0] := (blk_set (blk_set Kw1_rH.out 0 (.int .i64 0)) 1 (.int .i64 0))
        obtain ⟨r0, r1, _, _⟩ := blk2 KR
        simp [results, Try.results29, go_sem, rv, r0, r1]
      · exact ⟨by rw [X.out], by (repeat' (first | exact Below.refl _ _ | refine bl_out ?_ (by assumption) | exact (Hid.out (by assumption)) | refine bl_alloc ?_ _ | refine bl_drewN ?_ _ | refine bl_drew ?_ | refine bl_set ?_ ?_ _ | omega | (simp; done) | (simp; omega)))⟩
    · have X := Lib.hid (show mkR n d = (N, D, true) by rw [M.out, hv]; rfl)
      go_wp2_with fail
      refine bodyPost_ret (v := rv (N, D, true)) ?_ rfl ?_
      · have KR : Blk _ (w.heap.size) #[.int .i64 N, .int .i64 D] := (blk_set (blk_set Kw1_rH.out 0 (.int .i64 N)) 1 (.int .i64 D))
        obtain ⟨r0, r1, _, _⟩ := blk2 KR
        simp [results, Try.results29, go_sem, rv, r0, r1]
      · exact ⟨by rw [X.out], by (repeat' (first | exact Below.refl _ _ | refine bl_out ?_ (by assumption) | exact (Hid.out (by assumption)) | refine bl_alloc ?_ _ | refine bl_drewN ?_ _ | refine bl_drew ?_ | refine bl_set ?_ ?_ _ | omega | (simp; done) | (simp; omega)))⟩

set_option maxHeartbeats 400000 in
theorem s_RatOf (n d : Int) (w : World) :
    Calls Try.prog 52 #[.int .i64 n, .int .i64 d] w (RRat w (ratOf n d)) := by
  by_cases h1 : d = 0
  · subst h1
    have E := Lib.hid (show ratOf n 0 = (0, 0, false) by simp [ratOf, bigB])
    go_enter Try.func52, Try.ntmps52
    go_wp2_with (go_at_call 23; refine (s_l6In _ _ _ _).mono ?_; rintro e w' ⟨rfl, rfl⟩)
    refine bodyPost_ret (v := rv (0, 0, false)) (by simp [results, Try.results52, go_sem, rv]) rfl ⟨by rw [E.out], by (repeat' (first | exact Below.refl _ _ | refine bl_out ?_ (by assumption) | exact (Hid.out (by assumption)) | refine bl_alloc ?_ _ | refine bl_drewN ?_ _ | refine bl_drew ?_ | refine bl_set ?_ ?_ _ | omega | (simp; done) | (simp; omega)))⟩
  have dz : (d == 0) = false := by simp [h1]
  cases hn : inB n (-4000000000000000000) 4000000000000000000
  · have E := Lib.hid (show ratOf n d = (0, 0, false) by simp [ratOf, bigB, hn])
    clear h1
    go_enter Try.func52, Try.ntmps52
    go_wp2_with (go_at_call 23; refine (s_l6In _ _ _ _).mono ?_; rintro e w' ⟨rfl, rfl⟩)
    refine bodyPost_ret (v := rv (0, 0, false)) (by simp [results, Try.results52, go_sem, rv]) rfl ⟨by rw [E.out], by (repeat' (first | exact Below.refl _ _ | refine bl_out ?_ (by assumption) | exact (Hid.out (by assumption)) | refine bl_alloc ?_ _ | refine bl_drewN ?_ _ | refine bl_drew ?_ | refine bl_set ?_ ?_ _ | omega | (simp; done) | (simp; omega)))⟩
  cases hd : inB d (-4000000000000000000) 4000000000000000000
  · have E := Lib.hid (show ratOf n d = (0, 0, false) by simp [ratOf, bigB, hd])
    clear h1
    go_enter Try.func52, Try.ntmps52
    go_wp2_with (go_at_call 23; refine (s_l6In _ _ _ _).mono ?_; rintro e w' ⟨rfl, rfl⟩)
    refine bodyPost_ret (v := rv (0, 0, false)) (by simp [results, Try.results52, go_sem, rv]) rfl ⟨by rw [E.out], by (repeat' (first | exact Below.refl _ _ | refine bl_out ?_ (by assumption) | exact (Hid.out (by assumption)) | refine bl_alloc ?_ _ | refine bl_drewN ?_ _ | refine bl_drew ?_ | refine bl_set ?_ ?_ _ | omega | (simp; done) | (simp; omega)))⟩
  have E := Lib.hid (show ratOf n d = mkR n d by simp [ratOf, bigB, hn, hd, h1])
  obtain ⟨n0, n1⟩ := inB_iff.1 hn
  obtain ⟨d0, d1⟩ := inB_iff.1 hd
  have DN := Lib.hid h1
  clear h1
  go_enter Try.func52, Try.ntmps52
  go_wp2_with (go_at_call 23; refine (s_l6In _ _ _ _).mono ?_; rintro e w' ⟨rfl, rfl⟩)
  refine (s_l1Make _ _ _ DN.out n0 n1 d0 d1).mono ?_
  rintro e w1 ⟨rfl, hb1⟩
  have Kw1_r : Blk w1 (w.heap.size) #[.int .i64 0, .int .i64 0] := blk_later hb1 (blk_new (by simp))
  obtain ⟨w1_c0_r, w1_c1_r, w1_f0_r, w1_f1_r⟩ := blk2 Kw1_r
  have Kw1_rH := Lib.hid Kw1_r
  have w1_l_r := Kw1_r.lt
  have w1_m_r : w.heap.size < w1.heap.size + 1 := by omega
  have w1z := hb1.size
  try simp at w1z
  have w1B := Lib.hid hb1
  clear Kw1_r
  clear hb1
  generalize mkR n d = X at *
  obtain ⟨N, D, o⟩ := X
  simp only [rv]
  go_wp2_with fail
  refine bodyPost_ret (v := rv (N, D, o)) ?_ rfl ?_
  · have KR : Blk _ (w.heap.size) #[.int .i64 N, .int .i64 D] := (blk_set (blk_set Kw1_rH.out 0 (.int .i64 N)) 1 (.int .i64 D))
    obtain ⟨r0, r1, _, _⟩ := blk2 KR
    simp [results, Try.results52, go_sem, rv, r0, r1]
  · exact ⟨by rw [E.out], by (repeat' (first | exact Below.refl _ _ | refine bl_out ?_ (by assumption) | exact (Hid.out (by assumption)) | refine bl_alloc ?_ _ | refine bl_drewN ?_ _ | refine bl_drew ?_ | refine bl_set ?_ ?_ _ | omega | (simp; done) | (simp; omega)))⟩

set_option maxHeartbeats 400000 in
theorem s_l1Two (a b c d : Int) (w : World) :
    Calls Try.prog 28 #[.agg #[.int .i64 a, .int .i64 b], .agg #[.int .i64 c, .int .i64 d]] w (RBool w (ratB a b && ratB c d)) := by
  go_enter Try.func28, Try.ntmps28
  go_wp2_with fail
  refine (s_RatValid _ _ _).mono ?_
  rintro e w1 ⟨rfl, hb1⟩
  have Kw1_a : Blk w1 (w.heap.size) #[.int .i64 a, .int .i64 b] := blk_later hb1 (blk_alloc (blk_new (by simp)) (.cells #[.int .i64 c, .int .i64 d] 23))
  have Kw1_c : Blk w1 (w.heap.size + 1) #[.int .i64 c, .int .i64 d] := blk_later hb1 (blk_new (by simp))
  obtain ⟨w1_c0_a, w1_c1_a, w1_f0_a, w1_f1_a⟩ := blk2 Kw1_a
  have Kw1_aH := Lib.hid Kw1_a
  have w1_l_a := Kw1_a.lt
  have w1_m_a : w.heap.size < w1.heap.size + 1 := by omega
  obtain ⟨w1_c0_c, w1_c1_c, w1_f0_c, w1_f1_c⟩ := blk2 Kw1_c
  have Kw1_cH := Lib.hid Kw1_c
  have w1_l_c := Kw1_c.lt
  have w1_m_c : w.heap.size + 1 < w1.heap.size + 1 := by omega
  have w1z := hb1.size
  try simp at w1z
  have w1B := Lib.hid hb1
  clear Kw1_a Kw1_c
  clear hb1
  cases h1 : ratB a b
  · go_wp2_with fail
    go_ret
    exact ⟨ret_bool (by simp [h1]), by (repeat' (first | exact Below.refl _ _ | refine bl_out ?_ (by assumption) | exact (Hid.out (by assumption)) | refine bl_alloc ?_ _ | refine bl_drewN ?_ _ | refine bl_drew ?_ | refine bl_set ?_ ?_ _ | omega | (simp; done) | (simp; omega)))⟩
  go_wp2_with fail
  refine (s_RatValid _ _ _).mono ?_
  rintro e w2 ⟨rfl, hb2⟩
  have Kw2_a : Blk w2 (w.heap.size) #[.int .i64 a, .int .i64 b] := blk_later hb2 Kw1_aH.out
  have Kw2_c : Blk w2 (w.heap.size + 1) #[.int .i64 c, .int .i64 d] := blk_later hb2 Kw1_cH.out
  obtain ⟨w2_c0_a, w2_c1_a, w2_f0_a, w2_f1_a⟩ := blk2 Kw2_a
  have Kw2_aH := Lib.hid Kw2_a
  have w2_l_a := Kw2_a.lt
  have w2_m_a : w.heap.size < w2.heap.size + 1 := by omega
  obtain ⟨w2_c0_c, w2_c1_c, w2_f0_c, w2_f1_c⟩ := blk2 Kw2_c
  have Kw2_cH := Lib.hid Kw2_c
  have w2_l_c := Kw2_c.lt
  have w2_m_c : w.heap.size + 1 < w2.heap.size + 1 := by omega
  have w2z := hb2.size
  try simp at w2z
  have w2B := Lib.hid hb2
  clear Kw2_a Kw2_c
  clear hb2
  go_wp2_with fail
  go_ret
  exact ⟨ret_bool (by simp [h1]), by (repeat' (first | exact Below.refl _ _ | refine bl_out ?_ (by assumption) | exact (Hid.out (by assumption)) | refine bl_alloc ?_ _ | refine bl_drewN ?_ _ | refine bl_drew ?_ | refine bl_set ?_ ?_ _ | omega | (simp; done) | (simp; omega)))⟩

set_option maxHeartbeats 400000 in
theorem i_RatAdd (a b c d : Int) (w : World) :
    Calls Try.prog 20 #[.agg #[.int .i64 a, .int .i64 b], .agg #[.int .i64 c, .int .i64 d]] w (RRat w (ratAdd a b c d)) := by
  cases h1 : ratB a b
  · have E := Lib.hid (show ratAdd a b c d = (0, 0, false) by simp [ratAdd, h1])
    go_enter Try.func20, Try.ntmps20
    go_wp2_with fail
    refine (i_RatValid _ _ _).mono ?_
    rintro e w1 ⟨rfl, hb1⟩
    have Kw1_a : Blk w1 (w.heap.size) #[.int .i64 a, .int .i64 b] := blk_later hb1 (blk_alloc (blk_alloc (blk_new (by simp)) (.cells #[.int .i64 c, .int .i64 d] 23)) (.cells #[.int .i64 0, .int .i64 0] 23))
    have Kw1_c : Blk w1 (w.heap.size + 1) #[.int .i64 c, .int .i64 d] := blk_later hb1 (blk_alloc (blk_new (by simp)) (.cells #[.int .i64 0, .int .i64 0] 23))
    have Kw1_r : Blk w1 (w.heap.size + 2) #[.int .i64 0, .int .i64 0] := blk_later hb1 (blk_new (by simp))
    obtain ⟨w1_c0_a, w1_c1_a, w1_f0_a, w1_f1_a⟩ := blk2 Kw1_a
    have Kw1_aH := Lib.hid Kw1_a
    have w1_l_a := Kw1_a.lt
    have w1_m_a : w.heap.size < w1.heap.size + 1 := by omega
    obtain ⟨w1_c0_c, w1_c1_c, w1_f0_c, w1_f1_c⟩ := blk2 Kw1_c
    have Kw1_cH := Lib.hid Kw1_c
    have w1_l_c := Kw1_c.lt
    have w1_m_c : w.heap.size + 1 < w1.heap.size + 1 := by omega
    obtain ⟨w1_c0_r, w1_c1_r, w1_f0_r, w1_f1_r⟩ := blk2 Kw1_r
    have Kw1_rH := Lib.hid Kw1_r
    have w1_l_r := Kw1_r.lt
    have w1_m_r : w.heap.size + 2 < w1.heap.size + 1 := by omega
    have w1z := hb1.size
    try simp at w1z
    have w1B := Lib.hid hb1
    clear Kw1_a Kw1_c Kw1_r
    clear hb1
    go_wp2_with fail
    refine bodyPost_ret (v := rv (0, 0, false)) ?_ rfl ?_
    · have KR : Blk _ (w.heap.size + 2) #[.int .i64 0, .int .i64 0] := (blk_set (blk_set Kw1_rH.out 0 (.int .i64 0)) 1 (.int .i64 0))
      obtain ⟨r0, r1, _, _⟩ := blk2 KR
      simp [results, Try.results20, go_sem, rv, r0, r1]
    · exact ⟨by rw [E.out], by (repeat' (first | exact Below.refl _ _ | refine bl_out ?_ (by assumption) | exact (Hid.out (by assumption)) | refine bl_alloc ?_ _ | refine bl_drewN ?_ _ | refine bl_drew ?_ | refine bl_set ?_ ?_ _ | omega | (simp; done) | (simp; omega)))⟩
  cases h2 : ratB c d
  · have E := Lib.hid (show ratAdd a b c d = (0, 0, false) by simp [ratAdd, h2])
    go_enter Try.func20, Try.ntmps20
    go_wp2_with fail
    refine (i_RatValid _ _ _).mono ?_
    rintro e w1 ⟨rfl, hb1⟩
    have Kw1_a : Blk w1 (w.heap.size) #[.int .i64 a, .int .i64 b] := blk_later hb1 (blk_alloc (blk_alloc (blk_new (by simp)) (.cells #[.int .i64 c, .int .i64 d] 23)) (.cells #[.int .i64 0, .int .i64 0] 23))
    have Kw1_c : Blk w1 (w.heap.size + 1) #[.int .i64 c, .int .i64 d] := blk_later hb1 (blk_alloc (blk_new (by simp)) (.cells #[.int .i64 0, .int .i64 0] 23))
    have Kw1_r : Blk w1 (w.heap.size + 2) #[.int .i64 0, .int .i64 0] := blk_later hb1 (blk_new (by simp))
    obtain ⟨w1_c0_a, w1_c1_a, w1_f0_a, w1_f1_a⟩ := blk2 Kw1_a
    have Kw1_aH := Lib.hid Kw1_a
    have w1_l_a := Kw1_a.lt
    have w1_m_a : w.heap.size < w1.heap.size + 1 := by omega
    obtain ⟨w1_c0_c, w1_c1_c, w1_f0_c, w1_f1_c⟩ := blk2 Kw1_c
    have Kw1_cH := Lib.hid Kw1_c
    have w1_l_c := Kw1_c.lt
    have w1_m_c : w.heap.size + 1 < w1.heap.size + 1 := by omega
    obtain ⟨w1_c0_r, w1_c1_r, w1_f0_r, w1_f1_r⟩ := blk2 Kw1_r
    have Kw1_rH := Lib.hid Kw1_r
    have w1_l_r := Kw1_r.lt
    have w1_m_r : w.heap.size + 2 < w1.heap.size + 1 := by omega
    have w1z := hb1.size
    try simp at w1z
    have w1B := Lib.hid hb1
    clear Kw1_a Kw1_c Kw1_r
    clear hb1
    go_wp2_with fail
    refine (i_RatValid _ _ _).mono ?_
    rintro e w2 ⟨rfl, hb2⟩
    have Kw2_a : Blk w2 (w.heap.size) #[.int .i64 a, .int .i64 b] := blk_later hb2 Kw1_aH.out
    have Kw2_c : Blk w2 (w.heap.size + 1) #[.int .i64 c, .int .i64 d] := blk_later hb2 Kw1_cH.out
    have Kw2_r : Blk w2 (w.heap.size + 2) #[.int .i64 0, .int .i64 0] := blk_later hb2 Kw1_rH.out
    obtain ⟨w2_c0_a, w2_c1_a, w2_f0_a, w2_f1_a⟩ := blk2 Kw2_a
    have Kw2_aH := Lib.hid Kw2_a
    have w2_l_a := Kw2_a.lt
    have w2_m_a : w.heap.size < w2.heap.size + 1 := by omega
    obtain ⟨w2_c0_c, w2_c1_c, w2_f0_c, w2_f1_c⟩ := blk2 Kw2_c
    have Kw2_cH := Lib.hid Kw2_c
    have w2_l_c := Kw2_c.lt
    have w2_m_c : w.heap.size + 1 < w2.heap.size + 1 := by omega
    obtain ⟨w2_c0_r, w2_c1_r, w2_f0_r, w2_f1_r⟩ := blk2 Kw2_r
    have Kw2_rH := Lib.hid Kw2_r
    have w2_l_r := Kw2_r.lt
    have w2_m_r : w.heap.size + 2 < w2.heap.size + 1 := by omega
    have w2z := hb2.size
    try simp at w2z
    have w2B := Lib.hid hb2
    clear Kw2_a Kw2_c Kw2_r
    clear hb2
    go_wp2_with fail
    refine bodyPost_ret (v := rv (0, 0, false)) ?_ rfl ?_
    · have KR : Blk _ (w.heap.size + 2) #[.int .i64 0, .int .i64 0] := (blk_set (blk_set Kw2_rH.out 0 (.int .i64 0)) 1 (.int .i64 0))
      obtain ⟨r0, r1, _, _⟩ := blk2 KR
      simp [results, Try.results20, go_sem, rv, r0, r1]
    · exact ⟨by rw [E.out], by (repeat' (first | exact Below.refl _ _ | refine bl_out ?_ (by assumption) | exact (Hid.out (by assumption)) | refine bl_alloc ?_ _ | refine bl_drewN ?_ _ | refine bl_drew ?_ | refine bl_set ?_ ?_ _ | omega | (simp; done) | (simp; omega)))⟩
  have E := Lib.hid (show ratAdd a b c d = ratOf (a * d + c * b) (b * d) by simp [ratAdd, h1, h2])
  obtain ⟨⟨b0, b1⟩, ⟨a0, a1⟩, _⟩ := ratB_iff.1 h1
  obtain ⟨⟨d0, d1⟩, ⟨c0, c1⟩, _⟩ := ratB_iff.1 h2
  have p1 := mul_bd (A := 1000000000) (B := 1000000000) (a := a) (b := d) (by omega) (by omega) (by omega) (by omega)
  have p2 := mul_bd (A := 1000000000) (B := 1000000000) (a := b) (b := d) (by omega) (by omega) (by omega) (by omega)
  have p3 := mul_bd (A := 1000000000) (B := 1000000000) (a := c) (b := b) (by omega) (by omega) (by omega) (by omega)
  obtain ⟨p30, p31⟩ := p3
  obtain ⟨p10, p11⟩ := p1
  obtain ⟨p20, p21⟩ := p2
  go_enter Try.func20, Try.ntmps20
  go_wp2_with fail
  refine (i_RatValid _ _ _).mono ?_
  rintro e w1 ⟨rfl, hb1⟩
  have Kw1_a : Blk w1 (w.heap.size) #[.int .i64 a, .int .i64 b] := blk_later hb1 (blk_alloc (blk_alloc (blk_new (by simp)) (.cells #[.int .i64 c, .int .i64 d] 23)) (.cells #[.int .i64 0, .int .i64 0] 23))
  have Kw1_c : Blk w1 (w.heap.size + 1) #[.int .i64 c, .int .i64 d] := blk_later hb1 (blk_alloc (blk_new (by simp)) (.cells #[.int .i64 0, .int .i64 0] 23))
  have Kw1_r : Blk w1 (w.heap.size + 2) #[.int .i64 0, .int .i64 0] := blk_later hb1 (blk_new (by simp))
  obtain ⟨w1_c0_a, w1_c1_a, w1_f0_a, w1_f1_a⟩ := blk2 Kw1_a
  have Kw1_aH := Lib.hid Kw1_a
  have w1_l_a := Kw1_a.lt
  have w1_m_a : w.heap.size < w1.heap.size + 1 := by omega
  obtain ⟨w1_c0_c, w1_c1_c, w1_f0_c, w1_f1_c⟩ := blk2 Kw1_c
  have Kw1_cH := Lib.hid Kw1_c
  have w1_l_c := Kw1_c.lt
  have w1_m_c : w.heap.size + 1 < w1.heap.size + 1 := by omega
  obtain ⟨w1_c0_r, w1_c1_r, w1_f0_r, w1_f1_r⟩ := blk2 Kw1_r
  have Kw1_rH := Lib.hid Kw1_r
  have w1_l_r := Kw1_r.lt
  have w1_m_r : w.heap.size + 2 < w1.heap.size + 1 := by omega
  have w1z := hb1.size
  try simp at w1z
  have w1B := Lib.hid hb1
  clear Kw1_a Kw1_c Kw1_r
  clear hb1
  go_wp2_with fail
  refine (i_RatValid _ _ _).mono ?_
  rintro e w2 ⟨rfl, hb2⟩
  have Kw2_a : Blk w2 (w.heap.size) #[.int .i64 a, .int .i64 b] := blk_later hb2 Kw1_aH.out
  have Kw2_c : Blk w2 (w.heap.size + 1) #[.int .i64 c, .int .i64 d] := blk_later hb2 Kw1_cH.out
  have Kw2_r : Blk w2 (w.heap.size + 2) #[.int .i64 0, .int .i64 0] := blk_later hb2 Kw1_rH.out
  obtain ⟨w2_c0_a, w2_c1_a, w2_f0_a, w2_f1_a⟩ := blk2 Kw2_a
  have Kw2_aH := Lib.hid Kw2_a
  have w2_l_a := Kw2_a.lt
  have w2_m_a : w.heap.size < w2.heap.size + 1 := by omega
  obtain ⟨w2_c0_c, w2_c1_c, w2_f0_c, w2_f1_c⟩ := blk2 Kw2_c
  have Kw2_cH := Lib.hid Kw2_c
  have w2_l_c := Kw2_c.lt
  have w2_m_c : w.heap.size + 1 < w2.heap.size + 1 := by omega
  obtain ⟨w2_c0_r, w2_c1_r, w2_f0_r, w2_f1_r⟩ := blk2 Kw2_r
  have Kw2_rH := Lib.hid Kw2_r
  have w2_l_r := Kw2_r.lt
  have w2_m_r : w.heap.size + 2 < w2.heap.size + 1 := by omega
  have w2z := hb2.size
  try simp at w2z
  have w2B := Lib.hid hb2
  clear Kw2_a Kw2_c Kw2_r
  clear hb2
  go_wp2_with fail
  refine (i_RatOf _ _ _).mono ?_
  rintro e w3 ⟨rfl, hb3⟩
  have Kw3_r : Blk w3 (w.heap.size + 2) #[.int .i64 0, .int .i64 0] := blk_later hb3 Kw2_rH.out
  obtain ⟨w3_c0_r, w3_c1_r, w3_f0_r, w3_f1_r⟩ := blk2 Kw3_r
  have Kw3_rH := Lib.hid Kw3_r
  have w3_l_r := Kw3_r.lt
  have w3_m_r : w.heap.size + 2 < w3.heap.size + 1 := by omega
  have w3z := hb3.size
  try simp at w3z
  have w3B := Lib.hid hb3
  clear Kw3_r
  clear hb3
  generalize ratOf (a * d + c * b) (b * d) = X at *
  obtain ⟨N, D, o⟩ := X
  simp only [rv]
  go_wp2_with fail
  refine bodyPost_ret (v := rv (N, D, o)) ?_ rfl ?_
  · have KR : Blk _ (w.heap.size + 2) #[.int .i64 N, .int .i64 D] := (blk_set (blk_set Kw3_rH.out 0 (.int .i64 N)) 1 (.int .i64 D))
    obtain ⟨r0, r1, _, _⟩ := blk2 KR
    simp [results, Try.results20, go_sem, rv, r0, r1]
  · exact ⟨by rw [E.out], by (repeat' (first | exact Below.refl _ _ | refine bl_out ?_ (by assumption) | exact (Hid.out (by assumption)) | refine bl_alloc ?_ _ | refine bl_drewN ?_ _ | refine bl_drew ?_ | refine bl_set ?_ ?_ _ | omega | (simp; done) | (simp; omega)))⟩

set_option maxHeartbeats 400000 in
theorem s_RatAdd (a b c d : Int) (w : World) :
    Calls Try.prog 14 #[.agg #[.int .i64 a, .int .i64 b], .agg #[.int .i64 c, .int .i64 d]] w (RRat w (ratAdd a b c d)) := by
  cases h1 : (ratB a b && ratB c d)
  · have E := Lib.hid (show ratAdd a b c d = (0, 0, false) by simp [ratAdd, h1])
    go_enter Try.func14, Try.ntmps14
    go_wp2_with fail
    refine (s_l1Two _ _ _ _ _).mono ?_
    rintro e w1 ⟨rfl, hb1⟩
    have Kw1_a : Blk w1 (w.heap.size) #[.int .i64 a, .int .i64 b] := blk_later hb1 (blk_alloc (blk_alloc (blk_new (by simp)) (.cells #[.int .i64 c, .int .i64 d] 23)) (.cells #[.int .i64 0, .int .i64 0] 23))
    have Kw1_c : Blk w1 (w.heap.size + 1) #[.int .i64 c, .int .i64 d] := blk_later hb1 (blk_alloc (blk_new (by simp)) (.cells #[.int .i64 0, .int .i64 0] 23))
    have Kw1_r : Blk w1 (w.heap.size + 2) #[.int .i64 0, .int .i64 0] := blk_later hb1 (blk_new (by simp))
    obtain ⟨w1_c0_a, w1_c1_a, w1_f0_a, w1_f1_a⟩ := blk2 Kw1_a
    have Kw1_aH := Lib.hid Kw1_a
    have w1_l_a := Kw1_a.lt
    have w1_m_a : w.heap.size < w1.heap.size + 1 := by omega
    obtain ⟨w1_c0_c, w1_c1_c, w1_f0_c, w1_f1_c⟩ := blk2 Kw1_c
    have Kw1_cH := Lib.hid Kw1_c
    have w1_l_c := Kw1_c.lt
    have w1_m_c : w.heap.size + 1 < w1.heap.size + 1 := by omega
    obtain ⟨w1_c0_r, w1_c1_r, w1_f0_r, w1_f1_r⟩ := blk2 Kw1_r
    have Kw1_rH := Lib.hid Kw1_r
    have w1_l_r := Kw1_r.lt
    have w1_m_r : w.heap.size + 2 < w1.heap.size + 1 := by omega
    have w1z := hb1.size
    try simp at w1z
    have w1B := Lib.hid hb1
    clear Kw1_a Kw1_c Kw1_r
    clear hb1
    go_wp2_with fail
    refine bodyPost_ret (v := rv (0, 0, false)) ?_ rfl ?_
    · have KR : Blk _ (w.heap.size + 2) #[.int .i64 0, .int .i64 0] := (blk_set (blk_set Kw1_rH.out 0 (.int .i64 0)) 1 (.int .i64 0))
      obtain ⟨r0, r1, _, _⟩ := blk2 KR
      simp [results, Try.results14, go_sem, rv, r0, r1]
    · exact ⟨by rw [E.out], by (repeat' (first | exact Below.refl _ _ | refine bl_out ?_ (by assumption) | exact (Hid.out (by assumption)) | refine bl_alloc ?_ _ | refine bl_drewN ?_ _ | refine bl_drew ?_ | refine bl_set ?_ ?_ _ | omega | (simp; done) | (simp; omega)))⟩
  have H0 := Lib.hid h1
  rw [Bool.and_eq_true] at h1
  obtain ⟨h1, h2⟩ := h1
  obtain ⟨⟨b0, b1⟩, ⟨a0, a1⟩, _⟩ := ratB_iff.1 h1
  obtain ⟨⟨d0, d1⟩, ⟨c0, c1⟩, _⟩ := ratB_iff.1 h2
  have p1 := mul_bd (A := 1000000000) (B := 1000000000) (a := a) (b := d) (by omega) (by omega) (by omega) (by omega)
  have p2 := mul_bd (A := 1000000000) (B := 1000000000) (a := b) (b := d) (by omega) (by omega) (by omega) (by omega)
  have p3 := mul_bd (A := 1000000000) (B := 1000000000) (a := c) (b := b) (by omega) (by omega) (by omega) (by omega)
  obtain ⟨p30, p31⟩ := p3
  obtain ⟨p10, p11⟩ := p1
  obtain ⟨p20, p21⟩ := p2
  clear h1 h2
  have h1 := H0.out
  have DN : b * d ≠ 0 := Int.mul_ne_zero (by omega) (by omega)
  have E := Lib.hid (show ratAdd a b c d = mkR (a * d + c * b) (b * d) by
    have hb : bigB (a * d + c * b) (b * d) = true := by simp [bigB, inB, DN]; omega
    simp [ratAdd, H0.out, ratOf, hb])
  have HD := Lib.hid DN
  clear DN
  go_enter Try.func14, Try.ntmps14
  go_wp2_with fail
  refine (s_l1Two _ _ _ _ _).mono ?_
  rintro e w1 ⟨rfl, hb1⟩
  have Kw1_a : Blk w1 (w.heap.size) #[.int .i64 a, .int .i64 b] := blk_later hb1 (blk_alloc (blk_alloc (blk_new (by simp)) (.cells #[.int .i64 c, .int .i64 d] 23)) (.cells #[.int .i64 0, .int .i64 0] 23))
  have Kw1_c : Blk w1 (w.heap.size + 1) #[.int .i64 c, .int .i64 d] := blk_later hb1 (blk_alloc (blk_new (by simp)) (.cells #[.int .i64 0, .int .i64 0] 23))
  have Kw1_r : Blk w1 (w.heap.size + 2) #[.int .i64 0, .int .i64 0] := blk_later hb1 (blk_new (by simp))
  obtain ⟨w1_c0_a, w1_c1_a, w1_f0_a, w1_f1_a⟩ := blk2 Kw1_a
  have Kw1_aH := Lib.hid Kw1_a
  have w1_l_a := Kw1_a.lt
  have w1_m_a : w.heap.size < w1.heap.size + 1 := by omega
  obtain ⟨w1_c0_c, w1_c1_c, w1_f0_c, w1_f1_c⟩ := blk2 Kw1_c
  have Kw1_cH := Lib.hid Kw1_c
  have w1_l_c := Kw1_c.lt
  have w1_m_c : w.heap.size + 1 < w1.heap.size + 1 := by omega
  obtain ⟨w1_c0_r, w1_c1_r, w1_f0_r, w1_f1_r⟩ := blk2 Kw1_r
  have Kw1_rH := Lib.hid Kw1_r
  have w1_l_r := Kw1_r.lt
  have w1_m_r : w.heap.size + 2 < w1.heap.size + 1 := by omega
  have w1z := hb1.size
  try simp at w1z
  have w1B := Lib.hid hb1
  clear Kw1_a Kw1_c Kw1_r
  clear hb1
  go_wp2_with fail
  refine (s_l1Make _ _ _ HD.out (by omega) (by omega) (by omega) (by omega)).mono ?_
  rintro e w2 ⟨rfl, hb2⟩
  have Kw2_r : Blk w2 (w.heap.size + 2) #[.int .i64 0, .int .i64 0] := blk_later hb2 Kw1_rH.out
  obtain ⟨w2_c0_r, w2_c1_r, w2_f0_r, w2_f1_r⟩ := blk2 Kw2_r
  have Kw2_rH := Lib.hid Kw2_r
  have w2_l_r := Kw2_r.lt
  have w2_m_r : w.heap.size + 2 < w2.heap.size + 1 := by omega
  have w2z := hb2.size
  try simp at w2z
  have w2B := Lib.hid hb2
  clear Kw2_r
  clear hb2
  generalize mkR (a * d + c * b) (b * d) = X at *
  obtain ⟨N, D, o⟩ := X
  simp only [rv]
  go_wp2_with fail
  refine bodyPost_ret (v := rv (N, D, o)) ?_ rfl ?_
  · have KR : Blk _ (w.heap.size + 2) #[.int .i64 N, .int .i64 D] := (blk_set (blk_set Kw2_rH.out 0 (.int .i64 N)) 1 (.int .i64 D))
    obtain ⟨r0, r1, _, _⟩ := blk2 KR
    simp [results, Try.results14, go_sem, rv, r0, r1]
  · exact ⟨by rw [E.out], by (repeat' (first | exact Below.refl _ _ | refine bl_out ?_ (by assumption) | exact (Hid.out (by assumption)) | refine bl_alloc ?_ _ | refine bl_drewN ?_ _ | refine bl_drew ?_ | refine bl_set ?_ ?_ _ | omega | (simp; done) | (simp; omega)))⟩

set_option maxHeartbeats 400000 in
theorem i_RatDiv (a b c d : Int) (w : World) :
    Calls Try.prog 36 #[.agg #[.int .i64 a, .int .i64 b], .agg #[.int .i64 c, .int .i64 d]] w (RRat w (ratDiv a b c d)) := by
  cases h1 : ratB a b
  · have E := Lib.hid (show ratDiv a b c d = (0, 0, false) by simp [ratDiv, h1])
    go_enter Try.func36, Try.ntmps36
    go_wp2_with fail
    refine (i_RatValid _ _ _).mono ?_
    rintro e w1 ⟨rfl, hb1⟩
    have Kw1_a : Blk w1 (w.heap.size) #[.int .i64 a, .int .i64 b] := blk_later hb1 (blk_alloc (blk_alloc (blk_new (by simp)) (.cells #[.int .i64 c, .int .i64 d] 23)) (.cells #[.int .i64 0, .int .i64 0] 23))
    have Kw1_c : Blk w1 (w.heap.size + 1) #[.int .i64 c, .int .i64 d] := blk_later hb1 (blk_alloc (blk_new (by simp)) (.cells #[.int .i64 0, .int .i64 0] 23))
    have Kw1_r : Blk w1 (w.heap.size + 2) #[.int .i64 0, .int .i64 0] := blk_later hb1 (blk_new (by simp))
    obtain ⟨w1_c0_a, w1_c1_a, w1_f0_a, w1_f1_a⟩ := blk2 Kw1_a
    have Kw1_aH := Lib.hid Kw1_a
    have w1_l_a := Kw1_a.lt
    have w1_m_a : w.heap.size < w1.heap.size + 1 := by omega
    obtain ⟨w1_c0_c, w1_c1_c, w1_f0_c, w1_f1_c⟩ := blk2 Kw1_c
    have Kw1_cH := Lib.hid Kw1_c
    have w1_l_c := Kw1_c.lt
    have w1_m_c : w.heap.size + 1 < w1.heap.size + 1 := by omega
    obtain ⟨w1_c0_r, w1_c1_r, w1_f0_r, w1_f1_r⟩ := blk2 Kw1_r
    have Kw1_rH := Lib.hid Kw1_r
    have w1_l_r := Kw1_r.lt
    have w1_m_r : w.heap.size + 2 < w1.heap.size + 1 := by omega
    have w1z := hb1.size
    try simp at w1z
    have w1B := Lib.hid hb1
    clear Kw1_a Kw1_c Kw1_r
    clear hb1
    go_wp2_with fail
    refine bodyPost_ret (v := rv (0, 0, false)) ?_ rfl ?_
    · have KR : Blk _ (w.heap.size + 2) #[.int .i64 0, .int .i64 0] := (blk_set (blk_set Kw1_rH.out 0 (.int .i64 0)) 1 (.int .i64 0))
      obtain ⟨r0, r1, _, _⟩ := blk2 KR
      simp [results, Try.results36, go_sem, rv, r0, r1]
    · exact ⟨by rw [E.out], by (repeat' (first | exact Below.refl _ _ | refine bl_out ?_ (by assumption) | exact (Hid.out (by assumption)) | refine bl_alloc ?_ _ | refine bl_drewN ?_ _ | refine bl_drew ?_ | refine bl_set ?_ ?_ _ | omega | (simp; done) | (simp; omega)))⟩
  cases h2 : ratB c d
  · have E := Lib.hid (show ratDiv a b c d = (0, 0, false) by simp [ratDiv, h2])
    go_enter Try.func36, Try.ntmps36
    go_wp2_with fail
    refine (i_RatValid _ _ _).mono ?_
    rintro e w1 ⟨rfl, hb1⟩
    have Kw1_a : Blk w1 (w.heap.size) #[.int .i64 a, .int .i64 b] := blk_later hb1 (blk_alloc (blk_alloc (blk_new (by simp)) (.cells #[.int .i64 c, .int .i64 d] 23)) (.cells #[.int .i64 0, .int .i64 0] 23))
    have Kw1_c : Blk w1 (w.heap.size + 1) #[.int .i64 c, .int .i64 d] := blk_later hb1 (blk_alloc (blk_new (by simp)) (.cells #[.int .i64 0, .int .i64 0] 23))
    have Kw1_r : Blk w1 (w.heap.size + 2) #[.int .i64 0, .int .i64 0] := blk_later hb1 (blk_new (by simp))
    obtain ⟨w1_c0_a, w1_c1_a, w1_f0_a, w1_f1_a⟩ := blk2 Kw1_a
    have Kw1_aH := Lib.hid Kw1_a
    have w1_l_a := Kw1_a.lt
    have w1_m_a : w.heap.size < w1.heap.size + 1 := by omega
    obtain ⟨w1_c0_c, w1_c1_c, w1_f0_c, w1_f1_c⟩ := blk2 Kw1_c
    have Kw1_cH := Lib.hid Kw1_c
    have w1_l_c := Kw1_c.lt
    have w1_m_c : w.heap.size + 1 < w1.heap.size + 1 := by omega
    obtain ⟨w1_c0_r, w1_c1_r, w1_f0_r, w1_f1_r⟩ := blk2 Kw1_r
    have Kw1_rH := Lib.hid Kw1_r
    have w1_l_r := Kw1_r.lt
    have w1_m_r : w.heap.size + 2 < w1.heap.size + 1 := by omega
    have w1z := hb1.size
    try simp at w1z
    have w1B := Lib.hid hb1
    clear Kw1_a Kw1_c Kw1_r
    clear hb1
    go_wp2_with fail
    refine (i_RatValid _ _ _).mono ?_
    rintro e w2 ⟨rfl, hb2⟩
    have Kw2_a : Blk w2 (w.heap.size) #[.int .i64 a, .int .i64 b] := blk_later hb2 Kw1_aH.out
    have Kw2_c : Blk w2 (w.heap.size + 1) #[.int .i64 c, .int .i64 d] := blk_later hb2 Kw1_cH.out
    have Kw2_r : Blk w2 (w.heap.size + 2) #[.int .i64 0, .int .i64 0] := blk_later hb2 Kw1_rH.out
    obtain ⟨w2_c0_a, w2_c1_a, w2_f0_a, w2_f1_a⟩ := blk2 Kw2_a
    have Kw2_aH := Lib.hid Kw2_a
    have w2_l_a := Kw2_a.lt
    have w2_m_a : w.heap.size < w2.heap.size + 1 := by omega
    obtain ⟨w2_c0_c, w2_c1_c, w2_f0_c, w2_f1_c⟩ := blk2 Kw2_c
    have Kw2_cH := Lib.hid Kw2_c
    have w2_l_c := Kw2_c.lt
    have w2_m_c : w.heap.size + 1 < w2.heap.size + 1 := by omega
    obtain ⟨w2_c0_r, w2_c1_r, w2_f0_r, w2_f1_r⟩ := blk2 Kw2_r
    have Kw2_rH := Lib.hid Kw2_r
    have w2_l_r := Kw2_r.lt
    have w2_m_r : w.heap.size + 2 < w2.heap.size + 1 := by omega
    have w2z := hb2.size
    try simp at w2z
    have w2B := Lib.hid hb2
    clear Kw2_a Kw2_c Kw2_r
    clear hb2
    go_wp2_with fail
    refine bodyPost_ret (v := rv (0, 0, false)) ?_ rfl ?_
    · have KR : Blk _ (w.heap.size + 2) #[.int .i64 0, .int .i64 0] := (blk_set (blk_set Kw2_rH.out 0 (.int .i64 0)) 1 (.int .i64 0))
      obtain ⟨r0, r1, _, _⟩ := blk2 KR
      simp [results, Try.results36, go_sem, rv, r0, r1]
    · exact ⟨by rw [E.out], by (repeat' (first | exact Below.refl _ _ | refine bl_out ?_ (by assumption) | exact (Hid.out (by assumption)) | refine bl_alloc ?_ _ | refine bl_drewN ?_ _ | refine bl_drew ?_ | refine bl_set ?_ ?_ _ | omega | (simp; done) | (simp; omega)))⟩
  have E := Lib.hid (show ratDiv a b c d = ratOf (a * d) (b * c) by simp [ratDiv, h1, h2])
  obtain ⟨⟨b0, b1⟩, ⟨a0, a1⟩, _⟩ := ratB_iff.1 h1
  obtain ⟨⟨d0, d1⟩, ⟨c0, c1⟩, _⟩ := ratB_iff.1 h2
  have p1 := mul_bd (A := 1000000000) (B := 1000000000) (a := a) (b := d) (by omega) (by omega) (by omega) (by omega)
  have p2 := mul_bd (A := 1000000000) (B := 1000000000) (a := b) (b := c) (by omega) (by omega) (by omega) (by omega)
  obtain ⟨p10, p11⟩ := p1
  obtain ⟨p20, p21⟩ := p2
  go_enter Try.func36, Try.ntmps36
  go_wp2_with fail
  refine (i_RatValid _ _ _).mono ?_
  rintro e w1 ⟨rfl, hb1⟩
  have Kw1_a : Blk w1 (w.heap.size) #[.int .i64 a, .int .i64 b] := blk_later hb1 (blk_alloc (blk_alloc (blk_new (by simp)) (.cells #[.int .i64 c, .int .i64 d] 23)) (.cells #[.int .i64 0, .int .i64 0] 23))
  have Kw1_c : Blk w1 (w.heap.size + 1) #[.int .i64 c, .int .i64 d] := blk_later hb1 (blk_alloc (blk_new (by simp)) (.cells #[.int .i64 0, .int .i64 0] 23))
  have Kw1_r : Blk w1 (w.heap.size + 2) #[.int .i64 0, .int .i64 0] := blk_later hb1 (blk_new (by simp))
  obtain ⟨w1_c0_a, w1_c1_a, w1_f0_a, w1_f1_a⟩ := blk2 Kw1_a
  have Kw1_aH := Lib.hid Kw1_a
  have w1_l_a := Kw1_a.lt
  have w1_m_a : w.heap.size < w1.heap.size + 1 := by omega
  obtain ⟨w1_c0_c, w1_c1_c, w1_f0_c, w1_f1_c⟩ := blk2 Kw1_c
  have Kw1_cH := Lib.hid Kw1_c
  have w1_l_c := Kw1_c.lt
  have w1_m_c : w.heap.size + 1 < w1.heap.size + 1 := by omega
  obtain ⟨w1_c0_r, w1_c1_r, w1_f0_r, w1_f1_r⟩ := blk2 Kw1_r
  have Kw1_rH := Lib.hid Kw1_r
  have w1_l_r := Kw1_r.lt
  have w1_m_r : w.heap.size + 2 < w1.heap.size + 1 := by omega
  have w1z := hb1.size
  try simp at w1z
  have w1B := Lib.hid hb1
  clear Kw1_a Kw1_c Kw1_r
  clear hb1
  go_wp2_with fail
  refine (i_RatValid _ _ _).mono ?_
  rintro e w2 ⟨rfl, hb2⟩
  have Kw2_a : Blk w2 (w.heap.size) #[.int .i64 a, .int .i64 b] := blk_later hb2 Kw1_aH.out
  have Kw2_c : Blk w2 (w.heap.size + 1) #[.int .i64 c, .int .i64 d] := blk_later hb2 Kw1_cH.out
  have Kw2_r : Blk w2 (w.heap.size + 2) #[.int .i64 0, .int .i64 0] := blk_later hb2 Kw1_rH.out
  obtain ⟨w2_c0_a, w2_c1_a, w2_f0_a, w2_f1_a⟩ := blk2 Kw2_a
  have Kw2_aH := Lib.hid Kw2_a
  have w2_l_a := Kw2_a.lt
  have w2_m_a : w.heap.size < w2.heap.size + 1 := by omega
  obtain ⟨w2_c0_c, w2_c1_c, w2_f0_c, w2_f1_c⟩ := blk2 Kw2_c
  have Kw2_cH := Lib.hid Kw2_c
  have w2_l_c := Kw2_c.lt
  have w2_m_c : w.heap.size + 1 < w2.heap.size + 1 := by omega
  obtain ⟨w2_c0_r, w2_c1_r, w2_f0_r, w2_f1_r⟩ := blk2 Kw2_r
  have Kw2_rH := Lib.hid Kw2_r
  have w2_l_r := Kw2_r.lt
  have w2_m_r : w.heap.size + 2 < w2.heap.size + 1 := by omega
  have w2z := hb2.size
  try simp at w2z
  have w2B := Lib.hid hb2
  clear Kw2_a Kw2_c Kw2_r
  clear hb2
  go_wp2_with fail
  refine (i_RatOf _ _ _).mono ?_
  rintro e w3 ⟨rfl, hb3⟩
  have Kw3_r : Blk w3 (w.heap.size + 2) #[.int .i64 0, .int .i64 0] := blk_later hb3 Kw2_rH.out
  obtain ⟨w3_c0_r, w3_c1_r, w3_f0_r, w3_f1_r⟩ := blk2 Kw3_r
  have Kw3_rH := Lib.hid Kw3_r
  have w3_l_r := Kw3_r.lt
  have w3_m_r : w.heap.size + 2 < w3.heap.size + 1 := by omega
  have w3z := hb3.size
  try simp at w3z
  have w3B := Lib.hid hb3
  clear Kw3_r
  clear hb3
  generalize ratOf (a * d) (b * c) = X at *
  obtain ⟨N, D, o⟩ := X
  simp only [rv]
  go_wp2_with fail
  refine bodyPost_ret (v := rv (N, D, o)) ?_ rfl ?_
  · have KR : Blk _ (w.heap.size + 2) #[.int .i64 N, .int .i64 D] := (blk_set (blk_set Kw3_rH.out 0 (.int .i64 N)) 1 (.int .i64 D))
    obtain ⟨r0, r1, _, _⟩ := blk2 KR
    simp [results, Try.results36, go_sem, rv, r0, r1]
  · exact ⟨by rw [E.out], by (repeat' (first | exact Below.refl _ _ | refine bl_out ?_ (by assumption) | exact (Hid.out (by assumption)) | refine bl_alloc ?_ _ | refine bl_drewN ?_ _ | refine bl_drew ?_ | refine bl_set ?_ ?_ _ | omega | (simp; done) | (simp; omega)))⟩

set_option maxHeartbeats 400000 in
theorem s_RatDiv (a b c d : Int) (w : World) :
    Calls Try.prog 27 #[.agg #[.int .i64 a, .int .i64 b], .agg #[.int .i64 c, .int .i64 d]] w (RRat w (ratDiv a b c d)) := by
  cases h1 : (ratB a b && ratB c d)
  · have E := Lib.hid (show ratDiv a b c d = (0, 0, false) by simp [ratDiv, h1])
    go_enter Try.func27, Try.ntmps27
    go_wp2_with fail
    refine (s_l1Two _ _ _ _ _).mono ?_
    rintro e w1 ⟨rfl, hb1⟩
    have Kw1_a : Blk w1 (w.heap.size) #[.int .i64 a, .int .i64 b] := blk_later hb1 (blk_alloc (blk_alloc (blk_new (by simp)) (.cells #[.int .i64 c, .int .i64 d] 23)) (.cells #[.int .i64 0, .int .i64 0] 23))
    have Kw1_c : Blk w1 (w.heap.size + 1) #[.int .i64 c, .int .i64 d] := blk_later hb1 (blk_alloc (blk_new (by simp)) (.cells #[.int .i64 0, .int .i64 0] 23))
    have Kw1_r : Blk w1 (w.heap.size + 2) #[.int .i64 0, .int .i64 0] := blk_later hb1 (blk_new (by simp))
    obtain ⟨w1_c0_a, w1_c1_a, w1_f0_a, w1_f1_a⟩ := blk2 Kw1_a
    have Kw1_aH := Lib.hid Kw1_a
    have w1_l_a := Kw1_a.lt
    have w1_m_a : w.heap.size < w1.heap.size + 1 := by omega
    obtain ⟨w1_c0_c, w1_c1_c, w1_f0_c, w1_f1_c⟩ := blk2 Kw1_c
    have Kw1_cH := Lib.hid Kw1_c
    have w1_l_c := Kw1_c.lt
    have w1_m_c : w.heap.size + 1 < w1.heap.size + 1 := by omega
    obtain ⟨w1_c0_r, w1_c1_r, w1_f0_r, w1_f1_r⟩ := blk2 Kw1_r
    have Kw1_rH := Lib.hid Kw1_r
    have w1_l_r := Kw1_r.lt
    have w1_m_r : w.heap.size + 2 < w1.heap.size + 1 := by omega
    have w1z := hb1.size
    try simp at w1z
    have w1B := Lib.hid hb1
    clear Kw1_a Kw1_c Kw1_r
    clear hb1
    go_wp2_with fail
    refine bodyPost_ret (v := rv (0, 0, false)) ?_ rfl ?_
    · have KR : Blk _ (w.heap.size + 2) #[.int .i64 0, .int .i64 0] := (blk_set (blk_set Kw1_rH.out 0 (.int .i64 0)) 1 (.int .i64 0))
      obtain ⟨r0, r1, _, _⟩ := blk2 KR
      simp [results, Try.results27, go_sem, rv, r0, r1]
    · exact ⟨by rw [E.out], by (repeat' (first | exact Below.refl _ _ | refine bl_out ?_ (by assumption) | exact (Hid.out (by assumption)) | refine bl_alloc ?_ _ | refine bl_drewN ?_ _ | refine bl_drew ?_ | refine bl_set ?_ ?_ _ | omega | (simp; done) | (simp; omega)))⟩
  have H0 := Lib.hid h1
  rw [Bool.and_eq_true] at h1
  obtain ⟨h1, h2⟩ := h1
  obtain ⟨⟨b0, b1⟩, ⟨a0, a1⟩, _⟩ := ratB_iff.1 h1
  obtain ⟨⟨d0, d1⟩, ⟨c0, c1⟩, _⟩ := ratB_iff.1 h2
  have p1 := mul_bd (A := 1000000000) (B := 1000000000) (a := a) (b := d) (by omega) (by omega) (by omega) (by omega)
  have p2 := mul_bd (A := 1000000000) (B := 1000000000) (a := b) (b := c) (by omega) (by omega) (by omega) (by omega)
  obtain ⟨p10, p11⟩ := p1
  obtain ⟨p20, p21⟩ := p2
  clear h1 h2
  have h1 := H0.out
  by_cases hc : c = 0
  · subst hc
    have E := Lib.hid (show ratDiv a b 0 d = (0, 0, false) by simp [ratDiv, H0.out, ratOf, bigB])
    go_enter Try.func27, Try.ntmps27
    go_wp2_with fail
    refine (s_l1Two _ _ _ _ _).mono ?_
    rintro e w1 ⟨rfl, hb1⟩
    have Kw1_a : Blk w1 (w.heap.size) #[.int .i64 a, .int .i64 b] := blk_later hb1 (blk_alloc (blk_alloc (blk_new (by simp)) (.cells #[.int .i64 0, .int .i64 d] 23)) (.cells #[.int .i64 0, .int .i64 0] 23))
    have Kw1_c : Blk w1 (w.heap.size + 1) #[.int .i64 0, .int .i64 d] := blk_later hb1 (blk_alloc (blk_new (by simp)) (.cells #[.int .i64 0, .int .i64 0] 23))
    have Kw1_r : Blk w1 (w.heap.size + 2) #[.int .i64 0, .int .i64 0] := blk_later hb1 (blk_new (by simp))
    obtain ⟨w1_c0_a, w1_c1_a, w1_f0_a, w1_f1_a⟩ := blk2 Kw1_a
    have Kw1_aH := Lib.hid Kw1_a
    have w1_l_a := Kw1_a.lt
    have w1_m_a : w.heap.size < w1.heap.size + 1 := by omega
    obtain ⟨w1_c0_c, w1_c1_c, w1_f0_c, w1_f1_c⟩ := blk2 Kw1_c
    have Kw1_cH := Lib.hid Kw1_c
    have w1_l_c := Kw1_c.lt
    have w1_m_c : w.heap.size + 1 < w1.heap.size + 1 := by omega
    obtain ⟨w1_c0_r, w1_c1_r, w1_f0_r, w1_f1_r⟩ := blk2 Kw1_r
    have Kw1_rH := Lib.hid Kw1_r
    have w1_l_r := Kw1_r.lt
    have w1_m_r : w.heap.size + 2 < w1.heap.size + 1 := by omega
    have w1z := hb1.size
    try simp at w1z
    have w1B := Lib.hid hb1
    clear Kw1_a Kw1_c Kw1_r
    clear hb1
    go_wp2_with fail
    refine bodyPost_ret (v := rv (0, 0, false)) ?_ rfl ?_
    · have KR : Blk _ (w.heap.size + 2) #[.int .i64 0, .int .i64 0] := (blk_set (blk_set Kw1_rH.out 0 (.int .i64 0)) 1 (.int .i64 0))
      obtain ⟨r0, r1, _, _⟩ := blk2 KR
      simp [results, Try.results27, go_sem, rv, r0, r1]
    · exact ⟨by rw [E.out], by (repeat' (first | exact Below.refl _ _ | refine bl_out ?_ (by assumption) | exact (Hid.out (by assumption)) | refine bl_alloc ?_ _ | refine bl_drewN ?_ _ | refine bl_drew ?_ | refine bl_set ?_ ?_ _ | omega | (simp; done) | (simp; omega)))⟩
  have hc2 : (c == 0) = false := by simp [hc]
  have DN : b * c ≠ 0 := Int.mul_ne_zero (by omega) hc
  have E := Lib.hid (show ratDiv a b c d = mkR (a * d) (b * c) by
    have hb : bigB (a * d) (b * c) = true := by simp [bigB, inB, DN]; omega
    simp [ratDiv, H0.out, ratOf, hb])
  have HD := Lib.hid DN
  clear DN
  clear hc
  go_enter Try.func27, Try.ntmps27
  go_wp2_with fail
  refine (s_l1Two _ _ _ _ _).mono ?_
  rintro e w1 ⟨rfl, hb1⟩
  have Kw1_a : Blk w1 (w.heap.size) #[.int .i64 a, .int .i64 b] := blk_later hb1 (blk_alloc (blk_alloc (blk_new (by simp)) (.cells #[.int .i64 c, .int .i64 d] 23)) (.cells #[.int .i64 0, .int .i64 0] 23))
  have Kw1_c : Blk w1 (w.heap.size + 1) #[.int .i64 c, .int .i64 d] := blk_later hb1 (blk_alloc (blk_new (by simp)) (.cells #[.int .i64 0, .int .i64 0] 23))
  have Kw1_r : Blk w1 (w.heap.size + 2) #[.int .i64 0, .int .i64 0] := blk_later hb1 (blk_new (by simp))
  obtain ⟨w1_c0_a, w1_c1_a, w1_f0_a, w1_f1_a⟩ := blk2 Kw1_a
  have Kw1_aH := Lib.hid Kw1_a
  have w1_l_a := Kw1_a.lt
  have w1_m_a : w.heap.size < w1.heap.size + 1 := by omega
  obtain ⟨w1_c0_c, w1_c1_c, w1_f0_c, w1_f1_c⟩ := blk2 Kw1_c
  have Kw1_cH := Lib.hid Kw1_c
  have w1_l_c := Kw1_c.lt
  have w1_m_c : w.heap.size + 1 < w1.heap.size + 1 := by omega
  obtain ⟨w1_c0_r, w1_c1_r, w1_f0_r, w1_f1_r⟩ := blk2 Kw1_r
  have Kw1_rH := Lib.hid Kw1_r
  have w1_l_r := Kw1_r.lt
  have w1_m_r : w.heap.size + 2 < w1.heap.size + 1 := by omega
  have w1z := hb1.size
  try simp at w1z
  have w1B := Lib.hid hb1
  clear Kw1_a Kw1_c Kw1_r
  clear hb1
  go_wp2_with fail
  refine (s_l1Make _ _ _ HD.out (by omega) (by omega) (by omega) (by omega)).mono ?_
  rintro e w2 ⟨rfl, hb2⟩
  have Kw2_r : Blk w2 (w.heap.size + 2) #[.int .i64 0, .int .i64 0] := blk_later hb2 Kw1_rH.out
  obtain ⟨w2_c0_r, w2_c1_r, w2_f0_r, w2_f1_r⟩ := blk2 Kw2_r
  have Kw2_rH := Lib.hid Kw2_r
  have w2_l_r := Kw2_r.lt
  have w2_m_r : w.heap.size + 2 < w2.heap.size + 1 := by omega
  have w2z := hb2.size
  try simp at w2z
  have w2B := Lib.hid hb2
  clear Kw2_r
  clear hb2
  generalize mkR (a * d) (b * c) = X at *
  obtain ⟨N, D, o⟩ := X
  simp only [rv]
  go_wp2_with fail
  refine bodyPost_ret (v := rv (N, D, o)) ?_ rfl ?_
  · have KR : Blk _ (w.heap.size + 2) #[.int .i64 N, .int .i64 D] := (blk_set (blk_set Kw2_rH.out 0 (.int .i64 N)) 1 (.int .i64 D))
    obtain ⟨r0, r1, _, _⟩ := blk2 KR
    simp [results, Try.results27, go_sem, rv, r0, r1]
  · exact ⟨by rw [E.out], by (repeat' (first | exact Below.refl _ _ | refine bl_out ?_ (by assumption) | exact (Hid.out (by assumption)) | refine bl_alloc ?_ _ | refine bl_drewN ?_ _ | refine bl_drew ?_ | refine bl_set ?_ ?_ _ | omega | (simp; done) | (simp; omega)))⟩

end Go.Proofs.Ytdhmjmnpaigagaa
