/- The contract of ThreeSum, of the reference. -/
import Derived.Test.YtdhmjmnpaigagaaSj
import Derived.Test.YtdhmjmnpaigagaaTs
import Derived.Test.YtdhmjmnpaigagaaC
import Derived.Test.YtdhmjmnpaigagaaRk
import Derived.Deep.DeepCutAuto
namespace Go.Proofs.Ytdhmjmnpaigagaa
open Go.RowKit
set_option linter.unusedVariables false

theorem stepL_getD (lo : Int) (k i : Nat) (h : i < k) : (stepL lo k).getD i 0 = lo + 2 * (i : Int) := by
  simp [stepL, List.getD_eq_getElem?_getD, List.getElem?_map, List.getElem?_range h]
theorem proj_open {w : World} {base : Nat} {v : Value} {j : Int} {J : Nat} (hJ : (j + 1).toNat = J) (h1 : 1 ≤ J) (h : Ints w base v (stepL (-j) (j + 1).toNat)) :
    ∃ g cap, v = .slice (some ⟨g, 0, none⟩) J cap ∧ J ≤ maxLen ∧ base ≤ g ∧ g < w.heap.size ∧ ∀ p, p < J → w.cell? ⟨g, p, none⟩ = some (.int .i64 (-j + 2 * (p : Int))) := by
  rw [hJ] at h
  obtain ⟨a, cap, rfl, m1, hc⟩ := h.opened
  rw [stepL_length] at m1 hc ⊢
  rcases hc with hc | ⟨g, rfl, g1, g2, hc⟩
  · have := congrArg List.length hc
    rw [stepL_length] at this
    simp at this; omega
  · exact ⟨g, cap, rfl, m1, g1, g2, fun p hp => by rw [hc p hp, stepL_getD _ _ _ hp]⟩
theorem grown_cell' {a b : World} {row : Option Nat} (h : a.grownBy b row) {g i : Nat} {v : Value} (hc : a.cell? ⟨g, i, none⟩ = some v) (hl : g < a.heap.size) (hne : row ≠ some g) : b.cell? ⟨g, i, none⟩ = some v := by
  rw [World.cell?_of_block (w := a) (a := ⟨g, i, none⟩) (h.block g hl (fun e => hne e.symm))]; exact hc
theorem on_setR' {a w : World} {R : Nat} (h : a.grownBy w (some R)) {p : Addr} (hp : p.block = R) (u : Value) : a.grownBy (w.setCell p u) (some R) :=
  ⟨h.os, h.tape, h.output, by simpa [World.setCell] using h.size, fun i hi hne => (Below.heap_setCell w p u i (fun e => hne (by rw [← hp, e]))).trans (h.block i hi hne)⟩
theorem stepL_prefix (lo : Int) {p k : Nat} (h : p ≤ k) : stepL lo p <+: stepL lo k := by
  refine ⟨(stepL lo k).drop p, ?_⟩
  have : stepL lo p = (stepL lo k).take p := by
    simp only [stepL, ← List.map_take, List.take_range]; congr 2; omega
  rw [this, List.take_append_drop]
theorem foldl_stepL {β : Type} (f : β → Int → β) (t : β) (lo : Int) (p : Nat) : (stepL lo (p + 1)).foldl f t = f ((stepL lo p).foldl f t) (lo + 2 * (p : Int)) := by
  rw [stepL_succ, List.foldl_append]; rfl
/-- On the way to the sum each step exists. -/
theorem th_way {a b c : Int} (ht : tdB a b c = true) {p q : Nat} (hp : p < (a + 1).toNat) (hq : q < (b + 1).toNat) {N0 D0 : Int} (hf : (stepL (-a) p).foldl (thM a b c) (0, 1, true) = (N0, D0, true)) :
    ((stepL (-b) (q + 1)).foldl (thN a b c (-a + 2 * (p : Int))) (N0, D0, true)).2.2 = true := by
  have h := thSum_one ht
  unfold thSum at h
  have h1 := prefix_ok (fun t m => thM_fail a b c m t) (stepL_prefix (-a) (show p + 1 ≤ (a + 1).toNat by omega)) (by rw [h])
  rw [foldl_stepL, hf] at h1
  unfold thM at h1
  exact prefix_ok (fun t m => thN_fail a b c _ m t) (stepL_prefix (-b) (show q + 1 ≤ (b + 1).toNat by omega)) h1
theorem m_sThree (a b c m n k S N D : Int) (o : Bool) (w : World) (h : Hid (thI a b c m n k = (S, N, D, o))) :
    Calls Try.prog 13 #[.int .i64 a, .int .i64 b, .int .i64 c, .int .i64 m, .int .i64 n, .int .i64 k] w fun e w' => e = .returned (.tuple #[.agg #[.int .i64 S, .int .i64 N, .int .i64 D], .bool o]) ∧ Below w.heap.size w w' :=
  (s_ThreeJ a b c m n k w).mono fun e w' ⟨he, hb⟩ => ⟨by rw [he, h.out]; rfl, hb⟩
theorem m_sAdd (a b c d N D : Int) (o : Bool) (w : World) (h : Hid (ratAdd a b c d = (N, D, o))) :
    Calls Try.prog 14 #[.agg #[.int .i64 a, .int .i64 b], .agg #[.int .i64 c, .int .i64 d]] w fun e w' => e = .returned (.tuple #[.agg #[.int .i64 N, .int .i64 D], .bool o]) ∧ Below w.heap.size w w' :=
  (s_RatAdd a b c d w).mono fun e w' ⟨he, hb⟩ => ⟨by rw [he, h.out]; rfl, hb⟩

set_option maxRecDepth 100000 in
set_option maxHeartbeats 4000000 in
theorem s_ThreeSum (a b c : Int) (w : World) :
    Calls Try.prog 5 #[.int .i64 a, .int .i64 b, .int .i64 c] w fun e w' => e = .returned (rv (thsV a b c)) ∧ Below w.heap.size w w' := by
  cases ht : tdB a b c
  · have E : thsV a b c = (0, 0, false) := by simp [thsV, ht]
    have hk : cpOk a b c a b = false := by simp [cpOk, ht]
    rw [E]
    clear E
    go_enter Try.func5, Try.ntmps5
    go_wp2_with (go_at_call 10; refine (s_l21Ok _ _ _ _ _ _).mono ?_; rintro e w' ⟨rfl, rfl⟩)
    refine bodyPost_ret (v := rv (0, 0, false)) (by simp [results, Try.results5, go_sem, rv]) rfl ⟨rfl, by (repeat' (first | exact Below.refl _ _ | refine bl_out ?_ (by assumption) | exact (Hid.out (by assumption)) | refine bl_alloc ?_ _ | refine bl_drewN ?_ _ | refine bl_drew ?_ | refine bl_set ?_ ?_ _ | omega | (simp; done) | (simp; omega)))⟩
  · have E : thsV a b c = (1, 1, true) := by simp [thsV, ht]
    rw [E]
    clear E
    obtain ⟨⟨a0, a1⟩, ⟨b0, b1⟩, ⟨c0, c1⟩, _⟩ := tdB_iff.1 ht
    have hk : cpOk a b c a b = true := cpOk_iff.2 ⟨ht, hasB_iff.2 ⟨by omega, by omega, by omega⟩, hasB_iff.2 ⟨by omega, by omega, by omega⟩⟩
    have HT := Lib.hid ht
    clear ht
    go_enter Try.func5, Try.ntmps5
    go_wp2_with (go_at_call 10; refine (s_l21Ok _ _ _ _ _ _).mono ?_; rintro e w' ⟨rfl, rfl⟩)
    refine (s_SpinProj _ _ (by omega) (by omega)).mono ?_
    rintro e w1 ⟨v1, rfl, hv1, hb1⟩
    have Kw1_r : Blk w1 (w.heap.size) #[.int .i64 0, .int .i64 0] := blk_later hb1 (blk_alloc (blk_new (by simp)) (.cells #[.int .i64 0, .int .i64 1] 23))
    have Kw1_sum : Blk w1 (w.heap.size + 1) #[.int .i64 0, .int .i64 1] := blk_later hb1 (blk_new (by simp))
    obtain ⟨w1_c0_r, w1_c1_r, w1_f0_r, w1_f1_r⟩ := blk2 Kw1_r
    have Kw1_rH := Lib.hid Kw1_r
    have w1_l_r := Kw1_r.lt
    have w1_m_r : w.heap.size < w1.heap.size + 1 := by omega
    obtain ⟨w1_c0_sum, w1_c1_sum, w1_f0_sum, w1_f1_sum⟩ := blk2 Kw1_sum
    have Kw1_sumH := Lib.hid Kw1_sum
    have w1_l_sum := Kw1_sum.lt
    have w1_m_sum : w.heap.size + 1 < w1.heap.size + 1 := by omega
    have w1z := hb1.size
    try simp at w1z
    have w1B := Lib.hid hb1
    clear Kw1_r Kw1_sum
    clear hb1
    have HV1 := Lib.hid hv1
    clear hv1 hk
    go_wp2_with fail
    refine (s_SpinProj _ _ (by omega) (by omega)).mono ?_
    rintro e w2 ⟨v2, rfl, hv2, hb2⟩
    have Kw2_r : Blk w2 (w.heap.size) #[.int .i64 0, .int .i64 0] := blk_later hb2 Kw1_rH.out
    have Kw2_sum : Blk w2 (w.heap.size + 1) #[.int .i64 0, .int .i64 1] := blk_later hb2 Kw1_sumH.out
    obtain ⟨w2_c0_r, w2_c1_r, w2_f0_r, w2_f1_r⟩ := blk2 Kw2_r
    have Kw2_rH := Lib.hid Kw2_r
    have w2_l_r := Kw2_r.lt
    have w2_m_r : w.heap.size < w2.heap.size + 1 := by omega
    obtain ⟨w2_c0_sum, w2_c1_sum, w2_f0_sum, w2_f1_sum⟩ := blk2 Kw2_sum
    have Kw2_sumH := Lib.hid Kw2_sum
    have w2_l_sum := Kw2_sum.lt
    have w2_m_sum : w.heap.size + 1 < w2.heap.size + 1 := by omega
    have w2z := hb2.size
    try simp at w2z
    have w2B := Lib.hid hb2
    clear Kw2_r Kw2_sum
    clear hb2
    obtain ⟨NA, hNA⟩ : ∃ NA, (a + 1).toNat = NA := ⟨_, rfl⟩
    obtain ⟨NB, hNB⟩ : ∃ NB, (b + 1).toNat = NB := ⟨_, rfl⟩
    obtain ⟨g2, cp2, rfl, m2, g2a, g2b, C2⟩ := proj_open hNB (by omega) hv2
    obtain ⟨g1, cp1, rfl, m1, g1a, g1b, C1⟩ := proj_open hNA (by omega) (HV1.out.kept w2B.out)
    have n1 : (NA : Int) ≤ a + 1 := by omega
    have n2 : a + 1 ≤ (NA : Int) := by omega
    have n3 : (NB : Int) ≤ b + 1 := by omega
    have n4 : b + 1 ≤ (NB : Int) := by omega
    have HNA := Lib.hid hNA
    have HNB := Lib.hid hNB
    have X1 := Lib.hid C1
    have X2 := Lib.hid C2
    simp at g1a g2a
    clear hNA hNB C1 C2 hv2 HV1 m1 m2
    have hne1 : some (w.heap.size + 1) ≠ some g1 := by intro e; injection e with e; omega
    have hne2 : some (w.heap.size + 1) ≠ some g2 := by intro e; injection e with e; omega
    have hgs : w.heap.size + 1 < w2.heap.size := w2_l_sum
    have BW : Hid (Below w.heap.size w w2) := Lib.hid (by (repeat' (first | exact Below.refl _ _ | refine bl_out ?_ (by assumption) | exact (Hid.out (by assumption)) | refine bl_alloc ?_ _ | refine bl_drewN ?_ _ | refine bl_drew ?_ | refine bl_set ?_ ?_ _ | omega | (simp; done) | (simp; omega))))
    go_wp2_with fail
    go_loopw [11] (fun i wr => ∃ (p : Nat) (N0 D0 : Int), p ≤ NA ∧ i = .int .i64 p ∧ (stepL (-a) p).foldl (thM a b c) (0, 1, true) = (N0, D0, true) ∧ Blk wr (w.heap.size) #[.int .i64 0, .int .i64 0] ∧ Blk wr (w.heap.size + 1) #[.int .i64 N0, .int .i64 D0] ∧ w2.grownBy wr (some (w.heap.size + 1))) (fun i _ => NA - (intOf i).toNat)
    case atStart => exact ⟨0, 0, 1, by omega, by simp, rfl, Kw2_rH.out, Kw2_sumH.out, on_refl _ _⟩
    case round =>
      obtain ⟨p, N0, D0, hp, rfl, hst, KR, KS, hG⟩ := hrel
      have HST := Lib.hid hst
      have KRH := Lib.hid KR
      have KSH := Lib.hid KS
      have HG := Lib.hid hG
      have krl := KR.lt
      have ksl := KS.lt
      have hsz := hG.size
      obtain ⟨kr0, kr1, kr2, kr3⟩ := blk2 KR
      obtain ⟨ks0, ks1, ks2, ks3⟩ := blk2 KS
      clear hst KR KS hG
      by_cases hlt : p < NA
      · have hpm := HNA.out
        obtain ⟨m, hm⟩ : ∃ m, -a + 2 * (p : Int) = m := ⟨_, rfl⟩
        have hm0 : -6 ≤ m := by omega
        have hm1 : m ≤ 6 := by omega
        have hma : hasB a m = true := hasB_iff.2 ⟨by omega, by omega, by omega⟩
        have HMA := Lib.hid hma
        have HM := Lib.hid hm
        clear hma hm hpm
        clear kr0 kr1 kr2 kr3 ks0 ks1 ks2 ks3
        go_wp2_with fail
        go_loopw [12] (fun j wq => ∃ (q : Nat) (N D : Int), q ≤ NB ∧ j = .int .i64 q ∧ (stepL (-b) q).foldl (thN a b c m) (N0, D0, true) = (N, D, true) ∧ Blk wq (w.heap.size) #[.int .i64 0, .int .i64 0] ∧ Blk wq (w.heap.size + 1) #[.int .i64 N, .int .i64 D] ∧ w2.grownBy wq (some (w.heap.size + 1))) (fun j _ => NB - (intOf j).toNat)
        case atStart => exact ⟨0, N0, D0, by omega, by simp, rfl, KRH.out, KSH.out, HG.out⟩
        case round =>
          obtain ⟨q, N, D, hq, rfl, hst, KR, KS, hG⟩ := hrel
          obtain ⟨wq, rfl⟩ : ∃ x, x = wr := ⟨_, rfl⟩
          have HST2 := Lib.hid hst
          have KRH2 := Lib.hid KR
          have KSH2 := Lib.hid KS
          have HG2 := Lib.hid hG
          have krl2 := KR.lt
          have ksl2 := KS.lt
          have hsz2 := hG.size
          clear hst KR KS
          by_cases hltq : q < NB
          · have hpq := HNB.out
            obtain ⟨n, hn⟩ : ∃ n, -b + 2 * (q : Int) = n := ⟨_, rfl⟩
            have hn0 : -6 ≤ n := by omega
            have hn1 : n ≤ 6 := by omega
            have hnb : hasB b n = true := hasB_iff.2 ⟨by omega, by omega, by omega⟩
            have e1 := grown_cell' hG (X1.out p hlt) g1b hne1
            have e2 := grown_cell' hG (X2.out q hltq) g2b hne2
            rw [HM.out] at e1
            rw [hn] at e2
            have HNB2 := Lib.hid hnb
            have HN := Lib.hid hn
            have l1 : g1 < wq.heap.size := Nat.lt_of_lt_of_le g1b hsz2
            have l2 : g2 < wq.heap.size := Nat.lt_of_lt_of_le g2b hsz2
            have p1 : (p : Int) < (NA : Int) := by omega
            have q1 : (q : Int) < (NB : Int) := by omega
            clear hn hnb hpq hG
            have y0 : IntKind.i64.wrap (m + n) = m + n := IntWalk.i64_in _ (by omega)
            have y1 : IntKind.i64.wrap (0 - m) = -m := by rw [Int.zero_sub]; exact IntWalk.i64_in _ (by omega)
            have y2 : IntKind.i64.wrap (-m) = -m := IntWalk.i64_in _ (by omega)
            have y3 : IntKind.i64.wrap (-m - n) = -m - n := IntWalk.i64_in _ (by omega)
            cases hc : hasB c (m + n)
            · have E2 := Lib.hid (thN_no (a := a) (b := b) (t := (N, D, true)) hc)
              go_wp2_with fail
              go_quiet ((go_at_call 12; exact quiet_left (s_SpinHas _ _ _)))
              go_wp2_with fail
              go_roundw
              case rel => exact ⟨q + 1, N, D, by omega, by go_num, by rw [foldl_stepL, HST2.out, HN.out, E2.out], blk_drewN KRH2.out _, blk_drewN KSH2.out _, on_drewN HG2.out _⟩
              case measure => simp [intOf]; omega
            · have hth : thOk a b c m n (-m - n) = true := thOk_iff.2 ⟨cpOk_iff.2 ⟨HT.out, HMA.out, HNB2.out⟩, by rw [← hasB_neg, show -(-m - n) = m + n by omega]; exact hc⟩
              obtain ⟨S1, N1, D1, o1, hx⟩ := pair4 (thI a b c m n (-m - n))
              obtain rfl : o1 = true := by
                unfold thI at hx
                rw [hth] at hx
                simp only [if_true] at hx
                split at hx <;> (simp at hx; first | exact hx.2.2.2.symm | exact hx.2.2.2)
              have HX := Lib.hid hx
              obtain ⟨N2, D2, o2, hy⟩ := pair3 (ratAdd N D N1 D1)
              have way := th_way HT.out (p := p) (q := q) (by rw [HNA.out]; exact hlt) (by rw [HNB.out]; exact hltq) HST.out
              rw [HM.out, foldl_stepL, HST2.out, HN.out, thN_yes hc hx, hy] at way
              obtain rfl : o2 = true := by simpa using way
              have STEP := Lib.hid (show (stepL (-b) (q + 1)).foldl (thN a b c m) (N0, D0, true) = (N2, D2, true) by rw [foldl_stepL, HST2.out, HN.out, thN_yes hc hx, hy]; rfl)
              have HY := Lib.hid hy
              clear hx hy way hth
              go_wp2_with fail
              go_quiet ((go_at_call 12; exact quiet_left (s_SpinHas _ _ _)))
              rename_i nq
              have e3 : (wq.drewN nq).cell? ⟨g1, p, none⟩ = some (.int .i64 m) := e1
              have e4 : (wq.drewN nq).cell? ⟨g2, q, none⟩ = some (.int .i64 n) := e2
              have KR3 := blk_drewN KRH2.out nq
              have KS3 := blk_drewN KSH2.out nq
              have HG3 := Lib.hid (on_drewN HG2.out nq)
              have BD := Lib.hid (bl_only BW.out HG3 (by omega))
              have hsz3 : w2.heap.size ≤ (wq.drewN nq).heap.size := HG3.out.size
              have l13 : g1 < (wq.drewN nq).heap.size := l1
              have l23 : g2 < (wq.drewN nq).heap.size := l2
              generalize wq.drewN nq = wd at *
              have KR3H := Lib.hid KR3
              have KS3H := Lib.hid KS3
              have krl3 := KR3.lt
              have ksl3 := KS3.lt
              clear e1 e2 hc KR3 KS3
              go_upto_region 13 with fail
              have xl0 : g1 < wd.heap.size := by omega
              have xc0 : wd.cell? ⟨g1, p, none⟩ = some (.int .i64 m) := by exact e3
              have xl1 : g2 < wd.heap.size := by omega
              have xc1 : wd.cell? ⟨g2, q, none⟩ = some (.int .i64 n) := by exact e4
              have Kz51_r : Blk wd (w.heap.size) #[.int .i64 0, .int .i64 0] := KR3H.out
              have Kz51_sum : Blk wd (w.heap.size + 1) #[.int .i64 N, .int .i64 D] := KS3H.out
              have Bz51 : Below w.heap.size w wd := by (repeat' (first | exact Below.refl _ _ | refine bl_out ?_ (by assumption) | exact (Hid.out (by assumption)) | refine bl_alloc ?_ _ | refine bl_drewN ?_ _ | refine bl_drew ?_ | refine bl_set ?_ ?_ _ | omega | (simp; done) | (simp; omega)))
              generalize wd = z51 at *
              obtain ⟨z51_c0_r, z51_c1_r, z51_f0_r, z51_f1_r⟩ := blk2 Kz51_r
              have Kz51_rH := Lib.hid Kz51_r
              have z51_l_r := Kz51_r.lt
              obtain ⟨z51_c0_sum, z51_c1_sum, z51_f0_sum, z51_f1_sum⟩ := blk2 Kz51_sum
              have Kz51_sumH := Lib.hid Kz51_sum
              have z51_l_sum := Kz51_sum.lt
              have z51B := Lib.hid Bz51
              clear Bz51
              clear Kz51_r Kz51_sum
              go_cut [13, 14] (CutBlk z51 #[.int .i64 S1, .int .i64 N1, .int .i64 D1] true)
              case first =>
                go_region_held3 (fun w' => Below z51.heap.size z51 w' ∧ w'.cell? ⟨g1, p, none⟩ = some (.int .i64 m) ∧ w'.cell? ⟨g2, q, none⟩ = some (.int .i64 n)) ((refine and_keep ?_ (fun hB => ⟨held_cell hB xc0 xl0, held_cell hB xc1 xl1⟩); (repeat' (first | with_reducible exact Below.refl _ _ | with_reducible refine bl_alloc ?_ _ | with_reducible refine bl_set ?_ ?_ _ | exact (Below.refl _ _).drew | with_reducible refine bl_drew ?_ | with_reducible refine btr ?_ hbA | omega | (simp; done) | (simp; omega))))) (first | (go_at_call 13; refine (m_sThree _ _ _ _ _ _ _ _ _ _ _ HX).mono ?_; rintro e wA ⟨rfl, hbA⟩; obtain ⟨hcA, hfA⟩ := bcell hbA; have hzA : z51.heap.size ≤ wA.heap.size := (by first | exact hbA.size | exact Nat.le_trans hzA hbA.size | (have h0 := hbA.size; (try simp at h0); omega)); (try (have hyA : z51.heap.size < wA.heap.size := by (have h0 := hbA.size; (try simp at h0); omega)))))
                all_goals
                  go_wp2_with fail
                  go_meet
                  exact ⟨_, rfl, rfl, by (first | omega | (simp; omega)), by (repeat' (first | exact blk_new (by simp) | with_reducible refine blk_store2 (x := .int .i64 0) (y := .int .i64 0) ?_ | with_reducible refine blk_store3 (x := .int .i64 0) (y := .int .i64 0) (z := .int .i64 0) ?_ | with_reducible refine blk_drew ?_ | with_reducible refine blk_later hbA ?_)), by (repeat' (first | with_reducible exact Below.refl _ _ | with_reducible refine bl_alloc ?_ _ | with_reducible refine bl_set ?_ ?_ _ | exact (Below.refl _ _).drew | with_reducible refine bl_drew ?_ | with_reducible refine btr ?_ hbA | omega | (simp; done) | (simp; omega)))⟩
              case rest =>
                obtain ⟨g52, rfl, rfl, g52z, Kg52, hb52⟩ := hcut
                obtain ⟨w52, rfl⟩ : ∃ x, x = wc := ⟨_, rfl⟩
                have Kw52_r : Blk w52 (w.heap.size) #[.int .i64 0, .int .i64 0] := blk_later hb52 Kz51_rH.out
                have Kw52_sum : Blk w52 (w.heap.size + 1) #[.int .i64 N, .int .i64 D] := blk_later hb52 Kz51_sumH.out
                obtain ⟨w52_c0_r, w52_c1_r, w52_f0_r, w52_f1_r⟩ := blk2 Kw52_r
                have Kw52_rH := Lib.hid Kw52_r
                have w52_l_r := Kw52_r.lt
                have w52_m_r : w.heap.size < w52.heap.size + 1 := by omega
                obtain ⟨w52_c0_sum, w52_c1_sum, w52_f0_sum, w52_f1_sum⟩ := blk2 Kw52_sum
                have Kw52_sumH := Lib.hid Kw52_sum
                have w52_l_sum := Kw52_sum.lt
                have w52_m_sum : w.heap.size + 1 < w52.heap.size + 1 := by omega
                have w52z := hb52.size
                try simp at w52z
                have w52B := Lib.hid hb52
                clear Kw52_r Kw52_sum
                clear hb52
                obtain ⟨w52_c0_x, w52_c1_x, w52_c2_x, w52_f0_x, w52_f1_x, w52_f2_x⟩ := blk3 Kg52
                have Kg52H := Lib.hid Kg52
                have w52_l_x := Kg52.lt
                clear Kg52
                go_wp2_with fail
                refine (m_sAdd _ _ _ _ _ _ _ _ HY).mono ?_
                rintro e w53 ⟨rfl, hb53⟩
                have Kw53_r : Blk w53 (w.heap.size) #[.int .i64 0, .int .i64 0] := blk_later hb53 Kw52_rH.out
                have Kw53_sum : Blk w53 (w.heap.size + 1) #[.int .i64 N, .int .i64 D] := blk_later hb53 Kw52_sumH.out
                have Kw53_x : Blk w53 (g52) #[.int .i64 S1, .int .i64 N1, .int .i64 D1] := blk_later hb53 Kg52H.out
                obtain ⟨w53_c0_r, w53_c1_r, w53_f0_r, w53_f1_r⟩ := blk2 Kw53_r
                have Kw53_rH := Lib.hid Kw53_r
                have w53_l_r := Kw53_r.lt
                have w53_m_r : w.heap.size < w53.heap.size + 1 := by omega
                obtain ⟨w53_c0_sum, w53_c1_sum, w53_f0_sum, w53_f1_sum⟩ := blk2 Kw53_sum
                have Kw53_sumH := Lib.hid Kw53_sum
                have w53_l_sum := Kw53_sum.lt
                have w53_m_sum : w.heap.size + 1 < w53.heap.size + 1 := by omega
                obtain ⟨w53_c0_x, w53_c1_x, w53_c2_x, w53_f0_x, w53_f1_x, w53_f2_x⟩ := blk3 Kw53_x
                have Kw53_xH := Lib.hid Kw53_x
                have w53_l_x := Kw53_x.lt
                have w53_m_x : g52 < w53.heap.size + 1 := by omega
                have w53z := hb53.size
                try simp at w53z
                have w53B := Lib.hid hb53
                clear Kw53_r Kw53_sum Kw53_x
                clear hb53
                go_wp2_with fail
                go_roundw
                case rel => exact ⟨q + 1, N2, D2, by omega, by go_num, STEP.out, blk_alloc (blk_other (blk_other Kw53_rH.out (p := ⟨w.heap.size + 1, 0, none⟩) (v := .int .i64 N2) (by (first | omega | (simp; done) | (simp; omega)))) (p := ⟨w.heap.size + 1, 1, none⟩) (v := .int .i64 D2) (by (first | omega | (simp; done) | (simp; omega)))) _, blk_alloc (blk_set (blk_set Kw53_sumH.out 0 (.int .i64 N2)) 1 (.int .i64 D2)) _, on_alloc (by (refine on_setR' ?_ rfl _; refine on_setR' ?_ rfl _; exact on_below (on_below HG3.out w52B) w53B)) _⟩
                case measure => simp [intOf]; omega
          · obtain rfl : q = NB := by omega
            have E3 := Lib.hid (show (stepL (-a) (p + 1)).foldl (thM a b c) (0, 1, true) = (N, D, true) by rw [foldl_stepL, HST.out, HM.out, thM, HNB.out]; exact HST2.out)
            clear hG
            go_wp2_with fail
            go_roundw
            case rel => exact ⟨p + 1, N, D, by omega, by go_num, E3.out, KRH2.out, KSH2.out, HG2.out⟩
            case measure => simp [intOf]; omega
      · obtain rfl : p = NA := by omega
        have h2 := thSum_one HT.out
        unfold thSum at h2
        rw [HNA.out, HST.out] at h2
        obtain ⟨rfl, rfl⟩ : N0 = 1 ∧ D0 = 1 := by simpa using h2
        clear h2
        go_wp2_with fail
        refine bodyPost_ret (v := rv (1, 1, true)) ?_ rfl ?_
        · have KR : Blk _ (w.heap.size) #[.int .i64 1, .int .i64 1] := (blk_set (blk_set KRH.out 0 (.int .i64 1)) 1 (.int .i64 1))
          obtain ⟨r0, r1, _, _⟩ := blk2 KR
          simp [results, Try.results5, go_sem, rv, r0, r1]
        · exact ⟨rfl, by (repeat' (first | exact Below.refl _ _ | refine bl_out ?_ (by assumption) | refine bl_only ?_ (by assumption) ?_ | exact (Hid.out (by assumption)) | refine bl_alloc ?_ _ | refine bl_drewN ?_ _ | refine bl_drew ?_ | refine bl_set ?_ ?_ _ | omega | (simp; done) | (simp; omega)))⟩

end Go.Proofs.Ytdhmjmnpaigagaa
