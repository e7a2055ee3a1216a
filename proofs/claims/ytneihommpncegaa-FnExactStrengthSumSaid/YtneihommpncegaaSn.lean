/- Contracts of StrengthSum and StrengthTotal, of the program. -/
import Derived.Test.YtneihommpncegaaSm
namespace Go.Proofs.Ytneihommpncegaa
open Go.RowKit
set_option linter.unusedVariables false

theorem n_iAdd (a b c d N D : Int) (o : Bool) (w : World) (h : Hid (ratAdd a b c d = (N, D, o))) :
    Calls Try.prog 62 #[.agg #[.int .i64 a, .int .i64 b], .agg #[.int .i64 c, .int .i64 d]] w fun e w' => e = .returned (.tuple #[.agg #[.int .i64 N, .int .i64 D], .bool o]) ∧ Below w.heap.size w w' :=
  (i_RatAdd a b c d w).mono fun e w' ⟨he, hb⟩ => ⟨by rw [he, h.out]; rfl, hb⟩

set_option maxRecDepth 100000 in
set_option maxHeartbeats 2000000 in
theorem n_lit1 (s l j a b c N D : Int) (o : Bool) (px : Nat) (w : World) (K : Blk w px #[.int .i64 s, .int .i64 l, .int .i64 j]) (h : Hid (lsI s l j a b c = (N, D, o))) :
    Calls Try.prog 37 #[.agg #[.int .i64 a, .int .i64 b, .int .i64 c], .pointer (some ⟨px, 0, none⟩)] w (fun e w' => e = .returned (.tuple #[.agg #[.int .i64 N, .int .i64 D], .bool o]) ∧ Below w.heap.size w w') := by
  have HK := Lib.hid K
  have kl := K.lt
  obtain ⟨k0, k1, k2, k3, k4, k5⟩ := blk3 K
  clear K
  go_enter Try.func37, Try.ntmps37
  have p0 : ((w.alloc (.cells #[.int .i64 a, .int .i64 b, .int .i64 c] 26)).alloc (.cells #[.int .i64 0, .int .i64 0] 30)).cell? ⟨px, 0, none⟩ = some (.int .i64 s) := by rw [World.cell?_alloc_past _ _ _ (by simp; omega), World.cell?_alloc_past _ _ _ kl]; exact k0
  have p1 : ((w.alloc (.cells #[.int .i64 a, .int .i64 b, .int .i64 c] 26)).alloc (.cells #[.int .i64 0, .int .i64 0] 30)).cell? ⟨px, 1, none⟩ = some (.int .i64 l) := by rw [World.cell?_alloc_past _ _ _ (by simp; omega), World.cell?_alloc_past _ _ _ kl]; exact k1
  have p2 : ((w.alloc (.cells #[.int .i64 a, .int .i64 b, .int .i64 c] 26)).alloc (.cells #[.int .i64 0, .int .i64 0] 30)).cell? ⟨px, 2, none⟩ = some (.int .i64 j) := by rw [World.cell?_alloc_past _ _ _ (by simp; omega), World.cell?_alloc_past _ _ _ kl]; exact k2
  go_wp2_with fail
  refine (m_iLine _ _ _ _ _ _ _ _ _ _ h).mono ?_
  rintro e w1 ⟨rfl, hb1⟩
  have Kw1_y : Blk w1 (w.heap.size) #[.int .i64 a, .int .i64 b, .int .i64 c] := blk_later hb1 (blk_alloc (blk_new (by simp)) (.cells #[.int .i64 0, .int .i64 0] 30))
  have Kw1_r : Blk w1 (w.heap.size + 1) #[.int .i64 0, .int .i64 0] := blk_later hb1 (blk_new (by simp))
  obtain ⟨w1_c0_y, w1_c1_y, w1_c2_y, w1_f0_y, w1_f1_y, w1_f2_y⟩ := blk3 Kw1_y
  have Kw1_yH := Lib.hid Kw1_y
  have w1_l_y := Kw1_y.lt
  have w1_m_y : w.heap.size < w1.heap.size + 1 := by omega
  obtain ⟨w1_c0_r, w1_c1_r, w1_f0_r, w1_f1_r⟩ := blk2 Kw1_r
  have Kw1_rH := Lib.hid Kw1_r
  have w1_l_r := Kw1_r.lt
  have w1_m_r : w.heap.size + 1 < w1.heap.size + 1 := by omega
  have w1z := hb1.size
  try simp at w1z
  have w1B := Lib.hid hb1
  clear Kw1_y Kw1_r
  clear hb1
  go_wp2_with fail
  refine bodyPost_ret (v := .tuple #[.agg #[.int .i64 N, .int .i64 D], .bool o]) ?_ rfl ?_
  · have KR : Blk _ (w.heap.size + 1) #[.int .i64 N, .int .i64 D] := (blk_set (blk_set Kw1_rH.out 0 (.int .i64 N)) 1 (.int .i64 D))
    obtain ⟨r0, r1, _, _⟩ := blk2 KR
    simp [results, Try.results37, go_sem, r0, r1]
  · exact ⟨rfl, by (repeat' (first | exact Below.refl _ _ | refine bl_out ?_ (by assumption) | refine bl_only ?_ (by assumption) ?_ | exact (Hid.out (by assumption)) | refine bl_alloc ?_ _ | refine bl_drewN ?_ _ | refine bl_drew ?_ | refine bl_set ?_ ?_ _ | omega | (simp; done) | (simp; omega)))⟩

set_option maxRecDepth 100000 in
set_option maxHeartbeats 2000000 in
theorem n_over1 (s l j S L N D : Int) (o : Bool) (px : Nat) (w : World) (K : Blk w px #[.int .i64 s, .int .i64 l, .int .i64 j]) (ht : tmB S L = true) (h : Hid (sumL (lsI s l j) (lvlsL S L) 0 1 = (N, D, o))) :
    Calls Try.prog 36 #[.agg #[.int .i64 S, .int .i64 L], .func (.func 37) #[] #[.pointer (some ⟨px, 0, none⟩)]] w (fun e w' => e = .returned (.tuple #[.agg #[.int .i64 N, .int .i64 D], .bool o]) ∧ Below w.heap.size w w') := by
  have HKP := Lib.hid K
  have kpl := K.lt
  have HT := h
  clear h K
  go_enter Try.func36, Try.ntmps36
  go_wp2_with fail
  refine (i_whole _ _).mono ?_
  rintro e w1 ⟨rfl, hb1⟩
  have Kw1_t : Blk w1 (w.heap.size) #[.int .i64 S, .int .i64 L] := blk_later hb1 (blk_alloc (blk_new (by simp)) (.cells #[.int .i64 0, .int .i64 0] 30))
  have Kw1_r : Blk w1 (w.heap.size + 1) #[.int .i64 0, .int .i64 0] := blk_later hb1 (blk_new (by simp))
  obtain ⟨w1_c0_t, w1_c1_t, w1_f0_t, w1_f1_t⟩ := blk2 Kw1_t
  have Kw1_tH := Lib.hid Kw1_t
  have w1_l_t := Kw1_t.lt
  have w1_m_t : w.heap.size < w1.heap.size + 1 := by omega
  obtain ⟨w1_c0_r, w1_c1_r, w1_f0_r, w1_f1_r⟩ := blk2 Kw1_r
  have Kw1_rH := Lib.hid Kw1_r
  have w1_l_r := Kw1_r.lt
  have w1_m_r : w.heap.size + 1 < w1.heap.size + 1 := by omega
  have w1z := hb1.size
  try simp at w1z
  have w1B := Lib.hid hb1
  clear Kw1_t Kw1_r
  clear hb1
  have HKP1 : Hid (Blk w1 px #[.int .i64 s, .int .i64 l, .int .i64 j]) := Lib.hid (blk_later w1B.out (blk_alloc (blk_alloc HKP.out _) _))
  go_wp2_with fail
  refine (i_LevelsOf _ _ _).mono ?_
  rintro e w2 ⟨v, rfl, hv, hb2⟩
  have Kw2_r : Blk w2 (w.heap.size + 1) #[.int .i64 0, .int .i64 0] := blk_later hb2 (blk_alloc Kw1_rH.out (.cells #[.int .i64 0, .int .i64 1] 30))
  have Kw2_sum : Blk w2 (w1.heap.size) #[.int .i64 0, .int .i64 1] := blk_later hb2 (blk_new (by simp))
  obtain ⟨w2_c0_r, w2_c1_r, w2_f0_r, w2_f1_r⟩ := blk2 Kw2_r
  have Kw2_rH := Lib.hid Kw2_r
  have w2_l_r := Kw2_r.lt
  have w2_m_r : w.heap.size + 1 < w2.heap.size + 1 := by omega
  obtain ⟨w2_c0_sum, w2_c1_sum, w2_f0_sum, w2_f1_sum⟩ := blk2 Kw2_sum
  have Kw2_sumH := Lib.hid Kw2_sum
  have w2_l_sum := Kw2_sum.lt
  have w2_m_sum : w1.heap.size < w2.heap.size + 1 := by omega
  have w2z := hb2.size
  try simp at w2z
  have w2B := Lib.hid hb2
  clear Kw2_r Kw2_sum
  clear hb2
  have HKP2 : Hid (Blk w2 px #[.int .i64 s, .int .i64 l, .int .i64 j]) := Lib.hid (blk_later w2B.out (blk_alloc HKP1.out _))
  obtain ⟨hn1, hn2⟩ := lvls_one ht
  obtain ⟨a0, cap, rfl, hmx, hc⟩ := SRow.opened lcs_len hv
  rcases hc with hc | ⟨g, rfl, hg1, hg2, hc⟩
  · rw [hc] at hn1; simp at hn1
  have HC : Hid (∀ (k : Nat) (p : Int × Int × Int), (lvlsL S L)[k]? = some p → w2.cell? ⟨g, k * 3, none⟩ = some (.int .i64 p.1) ∧ w2.cell? ⟨g, k * 3 + 1, none⟩ = some (.int .i64 p.2.1) ∧ w2.cell? ⟨g, k * 3 + 2, none⟩ = some (.int .i64 p.2.2)) :=
    Lib.hid (fun k p hk => ⟨hc k 0 _ _ hk rfl, hc k 1 _ _ hk rfl, hc k 2 _ _ hk rfl⟩)
  clear hc hv hmx ht
  try simp at hg1
  have BW1 : Hid (Below w.heap.size w w2) := Lib.hid (by (repeat' (first | exact Below.refl _ _ | refine bl_out ?_ (by assumption) | exact (Hid.out (by assumption)) | refine bl_alloc ?_ _ | refine bl_drewN ?_ _ | refine bl_drew ?_ | refine bl_set ?_ ?_ _ | omega | (simp; done) | (simp; omega))))
  have kpl2 : px < w1.heap.size := by omega
  generalize lvlsL S L = xs at *
  obtain ⟨NL, hNL⟩ : ∃ NL, xs.length = NL := ⟨_, rfl⟩
  rw [hNL] at hn1 hn2
  rw [hNL]
  have HNL := Lib.hid hNL
  clear hNL
  go_wp2_with fail
  go_loopw [16] (fun i wr => ∃ (k : Nat) (N2 D2 : Int), k ≤ NL ∧ i = .int .i64 k ∧ sumL (lsI s l j) (xs.drop k) N2 D2 = (N, D, o) ∧ Blk wr (w1.heap.size) #[.int .i64 N2, .int .i64 D2] ∧ w2.grownBy wr (some (w1.heap.size))) (fun i _ => NL - (intOf i).toNat)
  case atStart => exact ⟨0, 0, 1, Nat.zero_le _, rfl, by rw [List.drop_zero]; exact HT.out, Kw2_sumH.out, on_refl _ _⟩
  case round =>
    obtain ⟨k, N2, D2, hk, rfl, hst, KS, hG⟩ := hrel
    have HST := Lib.hid hst
    have HG := Lib.hid hG
    have hsz := hG.size
    have HNX : Hid (Below w.heap.size w wr) := Lib.hid (bl_only BW1.out HG (by omega))
    have Kp := blk_only hG (by omega) HKP2.out
    have Kr := blk_only hG (by omega) Kw2_rH.out
    obtain ⟨kr0, kr1, kr2, kr3⟩ := blk2 Kr
    obtain ⟨ks0, ks1, ks2, ks3⟩ := blk2 KS
    have KPH := Lib.hid Kp
    have KRH := Lib.hid Kr
    have KSH := Lib.hid KS
    have krl := Kr.lt
    have ksl := KS.lt
    have gl : g < wr.heap.size := Nat.lt_of_lt_of_le hg2 hsz
    clear hst KS Kp Kr
    by_cases hlt : k < NL
    · skip
      obtain ⟨⟨a, b, c⟩, hp⟩ : ∃ p, xs[k]? = some p := ⟨_, List.getElem?_eq_getElem (by rw [HNL.out]; exact hlt)⟩
      obtain ⟨e0, e1, e2⟩ := HC.out k _ hp
      have hne : some (w1.heap.size) ≠ some g := by intro e; injection e with e; omega
      have f0 := grown_cell hG e0 hg2 hne
      have f1 := grown_cell hG e1 hg2 hne
      have f2 := grown_cell hG e2 hg2 hne
      have HP := Lib.hid hp
      obtain ⟨N1, D1, o1, hF⟩ := pair3 (lsI s l j a b c)
      have HF := Lib.hid hF
      clear hp hF e0 e1 e2 hG hne
      go_wp2_with fail
      refine (n_lit1 _ _ _ _ _ _ _ _ _ _ _ (blk_alloc KPH.out _) HF).mono ?_
      rintro e w21 ⟨rfl, hb21⟩
      have Kw21_r : Blk w21 (w.heap.size + 1) #[.int .i64 0, .int .i64 0] := blk_later hb21 (blk_alloc KRH.out (.cells #[.int .i64 a, .int .i64 b, .int .i64 c] 26))
      have Kw21_sum : Blk w21 (w1.heap.size) #[.int .i64 N2, .int .i64 D2] := blk_later hb21 (blk_alloc KSH.out (.cells #[.int .i64 a, .int .i64 b, .int .i64 c] 26))
      obtain ⟨w21_c0_r, w21_c1_r, w21_f0_r, w21_f1_r⟩ := blk2 Kw21_r
      have Kw21_rH := Lib.hid Kw21_r
      have w21_l_r := Kw21_r.lt
      have w21_m_r : w.heap.size + 1 < w21.heap.size + 1 := by omega
      obtain ⟨w21_c0_sum, w21_c1_sum, w21_f0_sum, w21_f1_sum⟩ := blk2 Kw21_sum
      have Kw21_sumH := Lib.hid Kw21_sum
      have w21_l_sum := Kw21_sum.lt
      have w21_m_sum : w1.heap.size < w21.heap.size + 1 := by omega
      have w21z := hb21.size
      try simp at w21z
      have w21B := Lib.hid hb21
      clear Kw21_r Kw21_sum
      clear hb21
      clear f0 f1 f2
      obtain ⟨N3, D3, o3, hA⟩ := pair3 (ratAdd N2 D2 N1 D1)
      have HA := Lib.hid hA
      clear hA
      go_wp2_with fail
      refine (n_iAdd _ _ _ _ _ _ _ _ HA).mono ?_
      rintro e w22 ⟨rfl, hb22⟩
      have Kw22_r : Blk w22 (w.heap.size + 1) #[.int .i64 0, .int .i64 0] := blk_later hb22 (blk_alloc Kw21_rH.out (.cells #[.int .i64 N1, .int .i64 D1] 30))
      have Kw22_sum : Blk w22 (w1.heap.size) #[.int .i64 N2, .int .i64 D2] := blk_later hb22 (blk_alloc Kw21_sumH.out (.cells #[.int .i64 N1, .int .i64 D1] 30))
      obtain ⟨w22_c0_r, w22_c1_r, w22_f0_r, w22_f1_r⟩ := blk2 Kw22_r
      have Kw22_rH := Lib.hid Kw22_r
      have w22_l_r := Kw22_r.lt
      have w22_m_r : w.heap.size + 1 < w22.heap.size + 1 := by omega
      obtain ⟨w22_c0_sum, w22_c1_sum, w22_f0_sum, w22_f1_sum⟩ := blk2 Kw22_sum
      have Kw22_sumH := Lib.hid Kw22_sum
      have w22_l_sum := Kw22_sum.lt
      have w22_m_sum : w1.heap.size < w22.heap.size + 1 := by omega
      have w22z := hb22.size
      try simp at w22z
      have w22B := Lib.hid hb22
      clear Kw22_r Kw22_sum
      clear hb22
      cases ho1 : o1
      · subst ho1
        obtain ⟨rfl, rfl, rfl⟩ := t3_eq (sumL_no HP.out HF.out HST.out).symm
        go_wp2_with fail
        refine bodyPost_ret (v := .tuple #[.agg #[.int .i64 0, .int .i64 0], .bool false]) ?_ rfl ?_
        · have KR : Blk _ (w.heap.size + 1) #[.int .i64 0, .int .i64 0] := (blk_set (blk_set (blk_other (blk_other Kw22_rH.out (p := ⟨w1.heap.size, 0, none⟩) (v := .int .i64 N3) (by (first | omega | (simp; done) | (simp; omega)))) (p := ⟨w1.heap.size, 1, none⟩) (v := .int .i64 D3) (by (first | omega | (simp; done) | (simp; omega)))) 0 (.int .i64 0)) 1 (.int .i64 0))
          obtain ⟨r0, r1, _, _⟩ := blk2 KR
          simp [results, Try.results36, go_sem, r0, r1]
        · exact ⟨rfl, by (repeat' (first | exact Below.refl _ _ | refine bl_out ?_ (by assumption) | refine bl_only ?_ (by assumption) ?_ | exact (Hid.out (by assumption)) | refine bl_alloc ?_ _ | refine bl_drewN ?_ _ | refine bl_drew ?_ | refine bl_set ?_ ?_ _ | omega | (simp; done) | (simp; omega)))⟩
      · subst ho1
        cases ho3 : o3
        · subst ho3
          obtain ⟨rfl, rfl, rfl⟩ := t3_eq (sumL_big HP.out HF.out HA.out HST.out).symm
          go_wp2_with fail
          refine bodyPost_ret (v := .tuple #[.agg #[.int .i64 0, .int .i64 0], .bool false]) ?_ rfl ?_
          · have KR : Blk _ (w.heap.size + 1) #[.int .i64 0, .int .i64 0] := (blk_set (blk_set (blk_other (blk_other Kw22_rH.out (p := ⟨w1.heap.size, 0, none⟩) (v := .int .i64 N3) (by (first | omega | (simp; done) | (simp; omega)))) (p := ⟨w1.heap.size, 1, none⟩) (v := .int .i64 D3) (by (first | omega | (simp; done) | (simp; omega)))) 0 (.int .i64 0)) 1 (.int .i64 0))
            obtain ⟨r0, r1, _, _⟩ := blk2 KR
            simp [results, Try.results36, go_sem, r0, r1]
          · exact ⟨rfl, by (repeat' (first | exact Below.refl _ _ | refine bl_out ?_ (by assumption) | refine bl_only ?_ (by assumption) ?_ | exact (Hid.out (by assumption)) | refine bl_alloc ?_ _ | refine bl_drewN ?_ _ | refine bl_drew ?_ | refine bl_set ?_ ?_ _ | omega | (simp; done) | (simp; omega)))⟩
        · subst ho3
          go_wp2_with fail
          go_roundw
          case rel => exact ⟨k + 1, N3, D3, by omega, by go_num, sumL_step HP.out HF.out HA.out HST.out, (blk_set (blk_set Kw22_sumH.out 0 (.int .i64 N3)) 1 (.int .i64 D3)), on_setR (on_setR (on_below (on_alloc (on_below (on_alloc HG.out _) w21B) _) w22B) rfl _) rfl _⟩
          case measure => simp [intOf]; omega
    · obtain rfl : k = NL := by omega
      have hst2 := HST.out
      rw [← HNL.out] at hst2
      obtain ⟨rfl, rfl, rfl⟩ := t3_eq (sumL_end hst2).symm
      clear hst2 hG
      go_wp2_with fail
      refine bodyPost_ret (v := .tuple #[.agg #[.int .i64 N, .int .i64 D], .bool true]) ?_ rfl ?_
      · have KR : Blk _ (w.heap.size + 1) #[.int .i64 N, .int .i64 D] := (blk_set (blk_set KRH.out 0 (.int .i64 N)) 1 (.int .i64 D))
        obtain ⟨r0, r1, _, _⟩ := blk2 KR
        simp [results, Try.results36, go_sem, r0, r1]
      · exact ⟨rfl, by (repeat' (first | exact Below.refl _ _ | refine bl_out ?_ (by assumption) | refine bl_only ?_ (by assumption) ?_ | exact (Hid.out (by assumption)) | refine bl_alloc ?_ _ | refine bl_drewN ?_ _ | refine bl_drew ?_ | refine bl_set ?_ ?_ _ | omega | (simp; done) | (simp; omega)))⟩

set_option maxRecDepth 100000 in
set_option maxHeartbeats 2000000 in
theorem n_iSum (s l j S L N D : Int) (o : Bool) (w : World) (h : Hid (strS s l j S L = (N, D, o))) :
    Calls Try.prog 16 #[.agg #[.int .i64 s, .int .i64 l, .int .i64 j], .agg #[.int .i64 S, .int .i64 L]] w (fun e w' => e = .returned (.tuple #[.agg #[.int .i64 N, .int .i64 D], .bool o]) ∧ Below w.heap.size w w') := by
  cases ht : tmB S L
  · have h0 := h.out
    rw [strS, if_neg (by simp [ht])] at h0
    obtain ⟨rfl, rfl, rfl⟩ := t3_eq h0
    clear h0
    go_enter Try.func16, Try.ntmps16
    go_wp2_with fail
    refine (i_TermValid _ _ _).mono ?_
    rintro e w1 ⟨rfl, hb1⟩
    have Kw1_x : Blk w1 (w.heap.size) #[.int .i64 s, .int .i64 l, .int .i64 j] := blk_later hb1 (blk_alloc (blk_alloc (blk_new (by simp)) (.cells #[.int .i64 S, .int .i64 L] 24)) (.cells #[.int .i64 0, .int .i64 0] 30))
    have Kw1_t : Blk w1 (w.heap.size + 1) #[.int .i64 S, .int .i64 L] := blk_later hb1 (blk_alloc (blk_new (by simp)) (.cells #[.int .i64 0, .int .i64 0] 30))
    have Kw1_r : Blk w1 (w.heap.size + 2) #[.int .i64 0, .int .i64 0] := blk_later hb1 (blk_new (by simp))
    obtain ⟨w1_c0_x, w1_c1_x, w1_c2_x, w1_f0_x, w1_f1_x, w1_f2_x⟩ := blk3 Kw1_x
    have Kw1_xH := Lib.hid Kw1_x
    have w1_l_x := Kw1_x.lt
    have w1_m_x : w.heap.size < w1.heap.size + 1 := by omega
    obtain ⟨w1_c0_t, w1_c1_t, w1_f0_t, w1_f1_t⟩ := blk2 Kw1_t
    have Kw1_tH := Lib.hid Kw1_t
    have w1_l_t := Kw1_t.lt
    have w1_m_t : w.heap.size + 1 < w1.heap.size + 1 := by omega
    obtain ⟨w1_c0_r, w1_c1_r, w1_f0_r, w1_f1_r⟩ := blk2 Kw1_r
    have Kw1_rH := Lib.hid Kw1_r
    have w1_l_r := Kw1_r.lt
    have w1_m_r : w.heap.size + 2 < w1.heap.size + 1 := by omega
    have w1z := hb1.size
    try simp at w1z
    have w1B := Lib.hid hb1
    clear Kw1_x Kw1_t Kw1_r
    clear hb1
    rw [ht]
    go_wp2_with fail
    refine bodyPost_ret (v := .tuple #[.agg #[.int .i64 0, .int .i64 0], .bool false]) ?_ rfl ?_
    · have KR : Blk _ (w.heap.size + 2) #[.int .i64 0, .int .i64 0] := (blk_set (blk_set Kw1_rH.out 0 (.int .i64 0)) 1 (.int .i64 0))
      obtain ⟨r0, r1, _, _⟩ := blk2 KR
      simp [results, Try.results16, go_sem, r0, r1]
    · exact ⟨rfl, by (repeat' (first | exact Below.refl _ _ | refine bl_out ?_ (by assumption) | refine bl_only ?_ (by assumption) ?_ | exact (Hid.out (by assumption)) | refine bl_alloc ?_ _ | refine bl_drewN ?_ _ | refine bl_drew ?_ | refine bl_set ?_ ?_ _ | omega | (simp; done) | (simp; omega)))⟩
  · have h0 := h.out
    rw [strS, if_pos ht] at h0
    have HT := Lib.hid h0
    clear h0 h
    go_enter Try.func16, Try.ntmps16
    go_wp2_with fail
    refine (i_TermValid _ _ _).mono ?_
    rintro e w1 ⟨rfl, hb1⟩
    have Kw1_x : Blk w1 (w.heap.size) #[.int .i64 s, .int .i64 l, .int .i64 j] := blk_later hb1 (blk_alloc (blk_alloc (blk_new (by simp)) (.cells #[.int .i64 S, .int .i64 L] 24)) (.cells #[.int .i64 0, .int .i64 0] 30))
    have Kw1_t : Blk w1 (w.heap.size + 1) #[.int .i64 S, .int .i64 L] := blk_later hb1 (blk_alloc (blk_new (by simp)) (.cells #[.int .i64 0, .int .i64 0] 30))
    have Kw1_r : Blk w1 (w.heap.size + 2) #[.int .i64 0, .int .i64 0] := blk_later hb1 (blk_new (by simp))
    obtain ⟨w1_c0_x, w1_c1_x, w1_c2_x, w1_f0_x, w1_f1_x, w1_f2_x⟩ := blk3 Kw1_x
    have Kw1_xH := Lib.hid Kw1_x
    have w1_l_x := Kw1_x.lt
    have w1_m_x : w.heap.size < w1.heap.size + 1 := by omega
    obtain ⟨w1_c0_t, w1_c1_t, w1_f0_t, w1_f1_t⟩ := blk2 Kw1_t
    have Kw1_tH := Lib.hid Kw1_t
    have w1_l_t := Kw1_t.lt
    have w1_m_t : w.heap.size + 1 < w1.heap.size + 1 := by omega
    obtain ⟨w1_c0_r, w1_c1_r, w1_f0_r, w1_f1_r⟩ := blk2 Kw1_r
    have Kw1_rH := Lib.hid Kw1_r
    have w1_l_r := Kw1_r.lt
    have w1_m_r : w.heap.size + 2 < w1.heap.size + 1 := by omega
    have w1z := hb1.size
    try simp at w1z
    have w1B := Lib.hid hb1
    clear Kw1_x Kw1_t Kw1_r
    clear hb1
    rw [ht]
    go_wp2_with fail
    refine (n_over1 _ _ _ _ _ _ _ _ _ _ Kw1_xH.out ht  HT).mono ?_
    rintro e w2 ⟨rfl, hb2⟩
    have Kw2_x : Blk w2 (w.heap.size) #[.int .i64 s, .int .i64 l, .int .i64 j] := blk_later hb2 Kw1_xH.out
    have Kw2_t : Blk w2 (w.heap.size + 1) #[.int .i64 S, .int .i64 L] := blk_later hb2 Kw1_tH.out
    have Kw2_r : Blk w2 (w.heap.size + 2) #[.int .i64 0, .int .i64 0] := blk_later hb2 Kw1_rH.out
    obtain ⟨w2_c0_x, w2_c1_x, w2_c2_x, w2_f0_x, w2_f1_x, w2_f2_x⟩ := blk3 Kw2_x
    have Kw2_xH := Lib.hid Kw2_x
    have w2_l_x := Kw2_x.lt
    have w2_m_x : w.heap.size < w2.heap.size + 1 := by omega
    obtain ⟨w2_c0_t, w2_c1_t, w2_f0_t, w2_f1_t⟩ := blk2 Kw2_t
    have Kw2_tH := Lib.hid Kw2_t
    have w2_l_t := Kw2_t.lt
    have w2_m_t : w.heap.size + 1 < w2.heap.size + 1 := by omega
    obtain ⟨w2_c0_r, w2_c1_r, w2_f0_r, w2_f1_r⟩ := blk2 Kw2_r
    have Kw2_rH := Lib.hid Kw2_r
    have w2_l_r := Kw2_r.lt
    have w2_m_r : w.heap.size + 2 < w2.heap.size + 1 := by omega
    have w2z := hb2.size
    try simp at w2z
    have w2B := Lib.hid hb2
    clear Kw2_x Kw2_t Kw2_r
    clear hb2
    go_wp2_with fail
    refine bodyPost_ret (v := .tuple #[.agg #[.int .i64 N, .int .i64 D], .bool o]) ?_ rfl ?_
    · have KR : Blk _ (w.heap.size + 2) #[.int .i64 N, .int .i64 D] := (blk_set (blk_set Kw2_rH.out 0 (.int .i64 N)) 1 (.int .i64 D))
      obtain ⟨r0, r1, _, _⟩ := blk2 KR
      simp [results, Try.results16, go_sem, r0, r1]
    · exact ⟨rfl, by (repeat' (first | exact Below.refl _ _ | refine bl_out ?_ (by assumption) | refine bl_only ?_ (by assumption) ?_ | exact (Hid.out (by assumption)) | refine bl_alloc ?_ _ | refine bl_drewN ?_ _ | refine bl_drew ?_ | refine bl_set ?_ ?_ _ | omega | (simp; done) | (simp; omega)))⟩

set_option maxRecDepth 100000 in
set_option maxHeartbeats 2000000 in
theorem n_lit2 (S2 L2 a b c N D : Int) (o : Bool) (px : Nat) (w : World) (K : Blk w px #[.int .i64 S2, .int .i64 L2]) (h : Hid (strS a b c S2 L2 = (N, D, o))) :
    Calls Try.prog 38 #[.agg #[.int .i64 a, .int .i64 b, .int .i64 c], .pointer (some ⟨px, 0, none⟩)] w (fun e w' => e = .returned (.tuple #[.agg #[.int .i64 N, .int .i64 D], .bool o]) ∧ Below w.heap.size w w') := by
  have HK := Lib.hid K
  have kl := K.lt
  obtain ⟨k0, k1, k2, k3⟩ := blk2 K
  clear K
  go_enter Try.func38, Try.ntmps38
  have p0 : ((w.alloc (.cells #[.int .i64 a, .int .i64 b, .int .i64 c] 26)).alloc (.cells #[.int .i64 0, .int .i64 0] 30)).cell? ⟨px, 0, none⟩ = some (.int .i64 S2) := by rw [World.cell?_alloc_past _ _ _ (by simp; omega), World.cell?_alloc_past _ _ _ kl]; exact k0
  have p1 : ((w.alloc (.cells #[.int .i64 a, .int .i64 b, .int .i64 c] 26)).alloc (.cells #[.int .i64 0, .int .i64 0] 30)).cell? ⟨px, 1, none⟩ = some (.int .i64 L2) := by rw [World.cell?_alloc_past _ _ _ (by simp; omega), World.cell?_alloc_past _ _ _ kl]; exact k1
  go_wp2_with fail
  refine (n_iSum _ _ _ _ _ _ _ _ _ h).mono ?_
  rintro e w1 ⟨rfl, hb1⟩
  have Kw1_y : Blk w1 (w.heap.size) #[.int .i64 a, .int .i64 b, .int .i64 c] := blk_later hb1 (blk_alloc (blk_new (by simp)) (.cells #[.int .i64 0, .int .i64 0] 30))
  have Kw1_r : Blk w1 (w.heap.size + 1) #[.int .i64 0, .int .i64 0] := blk_later hb1 (blk_new (by simp))
  obtain ⟨w1_c0_y, w1_c1_y, w1_c2_y, w1_f0_y, w1_f1_y, w1_f2_y⟩ := blk3 Kw1_y
  have Kw1_yH := Lib.hid Kw1_y
  have w1_l_y := Kw1_y.lt
  have w1_m_y : w.heap.size < w1.heap.size + 1 := by omega
  obtain ⟨w1_c0_r, w1_c1_r, w1_f0_r, w1_f1_r⟩ := blk2 Kw1_r
  have Kw1_rH := Lib.hid Kw1_r
  have w1_l_r := Kw1_r.lt
  have w1_m_r : w.heap.size + 1 < w1.heap.size + 1 := by omega
  have w1z := hb1.size
  try simp at w1z
  have w1B := Lib.hid hb1
  clear Kw1_y Kw1_r
  clear hb1
  go_wp2_with fail
  refine bodyPost_ret (v := .tuple #[.agg #[.int .i64 N, .int .i64 D], .bool o]) ?_ rfl ?_
  · have KR : Blk _ (w.heap.size + 1) #[.int .i64 N, .int .i64 D] := (blk_set (blk_set Kw1_rH.out 0 (.int .i64 N)) 1 (.int .i64 D))
    obtain ⟨r0, r1, _, _⟩ := blk2 KR
    simp [results, Try.results38, go_sem, r0, r1]
  · exact ⟨rfl, by (repeat' (first | exact Below.refl _ _ | refine bl_out ?_ (by assumption) | refine bl_only ?_ (by assumption) ?_ | exact (Hid.out (by assumption)) | refine bl_alloc ?_ _ | refine bl_drewN ?_ _ | refine bl_drew ?_ | refine bl_set ?_ ?_ _ | omega | (simp; done) | (simp; omega)))⟩

set_option maxRecDepth 100000 in
set_option maxHeartbeats 2000000 in
theorem n_over2 (S2 L2 S L N D : Int) (o : Bool) (px : Nat) (w : World) (K : Blk w px #[.int .i64 S2, .int .i64 L2]) (ht : tmB S L = true) (h : Hid (sumL (fun s l j => strS s l j S2 L2) (lvlsL S L) 0 1 = (N, D, o))) :
    Calls Try.prog 36 #[.agg #[.int .i64 S, .int .i64 L], .func (.func 38) #[] #[.pointer (some ⟨px, 0, none⟩)]] w (fun e w' => e = .returned (.tuple #[.agg #[.int .i64 N, .int .i64 D], .bool o]) ∧ Below w.heap.size w w') := by
  have HKP := Lib.hid K
  have kpl := K.lt
  have HT := h
  clear h K
  go_enter Try.func36, Try.ntmps36
  go_wp2_with fail
  refine (i_whole _ _).mono ?_
  rintro e w1 ⟨rfl, hb1⟩
  have Kw1_t : Blk w1 (w.heap.size) #[.int .i64 S, .int .i64 L] := blk_later hb1 (blk_alloc (blk_new (by simp)) (.cells #[.int .i64 0, .int .i64 0] 30))
  have Kw1_r : Blk w1 (w.heap.size + 1) #[.int .i64 0, .int .i64 0] := blk_later hb1 (blk_new (by simp))
  obtain ⟨w1_c0_t, w1_c1_t, w1_f0_t, w1_f1_t⟩ := blk2 Kw1_t
  have Kw1_tH := Lib.hid Kw1_t
  have w1_l_t := Kw1_t.lt
  have w1_m_t : w.heap.size < w1.heap.size + 1 := by omega
  obtain ⟨w1_c0_r, w1_c1_r, w1_f0_r, w1_f1_r⟩ := blk2 Kw1_r
  have Kw1_rH := Lib.hid Kw1_r
  have w1_l_r := Kw1_r.lt
  have w1_m_r : w.heap.size + 1 < w1.heap.size + 1 := by omega
  have w1z := hb1.size
  try simp at w1z
  have w1B := Lib.hid hb1
  clear Kw1_t Kw1_r
  clear hb1
  have HKP1 : Hid (Blk w1 px #[.int .i64 S2, .int .i64 L2]) := Lib.hid (blk_later w1B.out (blk_alloc (blk_alloc HKP.out _) _))
  go_wp2_with fail
  refine (i_LevelsOf _ _ _).mono ?_
  rintro e w2 ⟨v, rfl, hv, hb2⟩
  have Kw2_r : Blk w2 (w.heap.size + 1) #[.int .i64 0, .int .i64 0] := blk_later hb2 (blk_alloc Kw1_rH.out (.cells #[.int .i64 0, .int .i64 1] 30))
  have Kw2_sum : Blk w2 (w1.heap.size) #[.int .i64 0, .int .i64 1] := blk_later hb2 (blk_new (by simp))
  obtain ⟨w2_c0_r, w2_c1_r, w2_f0_r, w2_f1_r⟩ := blk2 Kw2_r
  have Kw2_rH := Lib.hid Kw2_r
  have w2_l_r := Kw2_r.lt
  have w2_m_r : w.heap.size + 1 < w2.heap.size + 1 := by omega
  obtain ⟨w2_c0_sum, w2_c1_sum, w2_f0_sum, w2_f1_sum⟩ := blk2 Kw2_sum
  have Kw2_sumH := Lib.hid Kw2_sum
  have w2_l_sum := Kw2_sum.lt
  have w2_m_sum : w1.heap.size < w2.heap.size + 1 := by omega
  have w2z := hb2.size
  try simp at w2z
  have w2B := Lib.hid hb2
  clear Kw2_r Kw2_sum
  clear hb2
  have HKP2 : Hid (Blk w2 px #[.int .i64 S2, .int .i64 L2]) := Lib.hid (blk_later w2B.out (blk_alloc HKP1.out _))
  obtain ⟨hn1, hn2⟩ := lvls_one ht
  obtain ⟨a0, cap, rfl, hmx, hc⟩ := SRow.opened lcs_len hv
  rcases hc with hc | ⟨g, rfl, hg1, hg2, hc⟩
  · rw [hc] at hn1; simp at hn1
  have HC : Hid (∀ (k : Nat) (p : Int × Int × Int), (lvlsL S L)[k]? = some p → w2.cell? ⟨g, k * 3, none⟩ = some (.int .i64 p.1) ∧ w2.cell? ⟨g, k * 3 + 1, none⟩ = some (.int .i64 p.2.1) ∧ w2.cell? ⟨g, k * 3 + 2, none⟩ = some (.int .i64 p.2.2)) :=
    Lib.hid (fun k p hk => ⟨hc k 0 _ _ hk rfl, hc k 1 _ _ hk rfl, hc k 2 _ _ hk rfl⟩)
  clear hc hv hmx ht
  try simp at hg1
  have BW1 : Hid (Below w.heap.size w w2) := Lib.hid (by (repeat' (first | exact Below.refl _ _ | refine bl_out ?_ (by assumption) | exact (Hid.out (by assumption)) | refine bl_alloc ?_ _ | refine bl_drewN ?_ _ | refine bl_drew ?_ | refine bl_set ?_ ?_ _ | omega | (simp; done) | (simp; omega))))
  have kpl2 : px < w1.heap.size := by omega
  generalize lvlsL S L = xs at *
  obtain ⟨NL, hNL⟩ : ∃ NL, xs.length = NL := ⟨_, rfl⟩
  rw [hNL] at hn1 hn2
  rw [hNL]
  have HNL := Lib.hid hNL
  clear hNL
  go_wp2_with fail
  go_loopw [16] (fun i wr => ∃ (k : Nat) (N2 D2 : Int), k ≤ NL ∧ i = .int .i64 k ∧ sumL (fun s l j => strS s l j S2 L2) (xs.drop k) N2 D2 = (N, D, o) ∧ Blk wr (w1.heap.size) #[.int .i64 N2, .int .i64 D2] ∧ w2.grownBy wr (some (w1.heap.size))) (fun i _ => NL - (intOf i).toNat)
  case atStart => exact ⟨0, 0, 1, Nat.zero_le _, rfl, by rw [List.drop_zero]; exact HT.out, Kw2_sumH.out, on_refl _ _⟩
  case round =>
    obtain ⟨k, N2, D2, hk, rfl, hst, KS, hG⟩ := hrel
    have HST := Lib.hid hst
    have HG := Lib.hid hG
    have hsz := hG.size
    have HNX : Hid (Below w.heap.size w wr) := Lib.hid (bl_only BW1.out HG (by omega))
    have Kp := blk_only hG (by omega) HKP2.out
    have Kr := blk_only hG (by omega) Kw2_rH.out
    obtain ⟨kr0, kr1, kr2, kr3⟩ := blk2 Kr
    obtain ⟨ks0, ks1, ks2, ks3⟩ := blk2 KS
    have KPH := Lib.hid Kp
    have KRH := Lib.hid Kr
    have KSH := Lib.hid KS
    have krl := Kr.lt
    have ksl := KS.lt
    have gl : g < wr.heap.size := Nat.lt_of_lt_of_le hg2 hsz
    clear hst KS Kp Kr
    by_cases hlt : k < NL
    · skip
      obtain ⟨⟨a, b, c⟩, hp⟩ : ∃ p, xs[k]? = some p := ⟨_, List.getElem?_eq_getElem (by rw [HNL.out]; exact hlt)⟩
      obtain ⟨e0, e1, e2⟩ := HC.out k _ hp
      have hne : some (w1.heap.size) ≠ some g := by intro e; injection e with e; omega
      have f0 := grown_cell hG e0 hg2 hne
      have f1 := grown_cell hG e1 hg2 hne
      have f2 := grown_cell hG e2 hg2 hne
      have HP := Lib.hid hp
      obtain ⟨N1, D1, o1, hF⟩ := pair3 (strS a b c S2 L2)
      have HF := Lib.hid hF
      clear hp hF e0 e1 e2 hG hne
      go_wp2_with fail
      refine (n_lit2 _ _ _ _ _ _ _ _ _ _ (blk_alloc KPH.out _) HF).mono ?_
      rintro e w21 ⟨rfl, hb21⟩
      have Kw21_r : Blk w21 (w.heap.size + 1) #[.int .i64 0, .int .i64 0] := blk_later hb21 (blk_alloc KRH.out (.cells #[.int .i64 a, .int .i64 b, .int .i64 c] 26))
      have Kw21_sum : Blk w21 (w1.heap.size) #[.int .i64 N2, .int .i64 D2] := blk_later hb21 (blk_alloc KSH.out (.cells #[.int .i64 a, .int .i64 b, .int .i64 c] 26))
      obtain ⟨w21_c0_r, w21_c1_r, w21_f0_r, w21_f1_r⟩ := blk2 Kw21_r
      have Kw21_rH := Lib.hid Kw21_r
      have w21_l_r := Kw21_r.lt
      have w21_m_r : w.heap.size + 1 < w21.heap.size + 1 := by omega
      obtain ⟨w21_c0_sum, w21_c1_sum, w21_f0_sum, w21_f1_sum⟩ := blk2 Kw21_sum
      have Kw21_sumH := Lib.hid Kw21_sum
      have w21_l_sum := Kw21_sum.lt
      have w21_m_sum : w1.heap.size < w21.heap.size + 1 := by omega
      have w21z := hb21.size
      try simp at w21z
      have w21B := Lib.hid hb21
      clear Kw21_r Kw21_sum
      clear hb21
      clear f0 f1 f2
      obtain ⟨N3, D3, o3, hA⟩ := pair3 (ratAdd N2 D2 N1 D1)
      have HA := Lib.hid hA
      clear hA
      go_wp2_with fail
      refine (n_iAdd _ _ _ _ _ _ _ _ HA).mono ?_
      rintro e w22 ⟨rfl, hb22⟩
      have Kw22_r : Blk w22 (w.heap.size + 1) #[.int .i64 0, .int .i64 0] := blk_later hb22 (blk_alloc Kw21_rH.out (.cells #[.int .i64 N1, .int .i64 D1] 30))
      have Kw22_sum : Blk w22 (w1.heap.size) #[.int .i64 N2, .int .i64 D2] := blk_later hb22 (blk_alloc Kw21_sumH.out (.cells #[.int .i64 N1, .int .i64 D1] 30))
      obtain ⟨w22_c0_r, w22_c1_r, w22_f0_r, w22_f1_r⟩ := blk2 Kw22_r
      have Kw22_rH := Lib.hid Kw22_r
      have w22_l_r := Kw22_r.lt
      have w22_m_r : w.heap.size + 1 < w22.heap.size + 1 := by omega
      obtain ⟨w22_c0_sum, w22_c1_sum, w22_f0_sum, w22_f1_sum⟩ := blk2 Kw22_sum
      have Kw22_sumH := Lib.hid Kw22_sum
      have w22_l_sum := Kw22_sum.lt
      have w22_m_sum : w1.heap.size < w22.heap.size + 1 := by omega
      have w22z := hb22.size
      try simp at w22z
      have w22B := Lib.hid hb22
      clear Kw22_r Kw22_sum
      clear hb22
      cases ho1 : o1
      · subst ho1
        obtain ⟨rfl, rfl, rfl⟩ := t3_eq (sumL_no HP.out HF.out HST.out).symm
        go_wp2_with fail
        refine bodyPost_ret (v := .tuple #[.agg #[.int .i64 0, .int .i64 0], .bool false]) ?_ rfl ?_
        · have KR : Blk _ (w.heap.size + 1) #[.int .i64 0, .int .i64 0] := (blk_set (blk_set (blk_other (blk_other Kw22_rH.out (p := ⟨w1.heap.size, 0, none⟩) (v := .int .i64 N3) (by (first | omega | (simp; done) | (simp; omega)))) (p := ⟨w1.heap.size, 1, none⟩) (v := .int .i64 D3) (by (first | omega | (simp; done) | (simp; omega)))) 0 (.int .i64 0)) 1 (.int .i64 0))
          obtain ⟨r0, r1, _, _⟩ := blk2 KR
          simp [results, Try.results36, go_sem, r0, r1]
        · exact ⟨rfl, by (repeat' (first | exact Below.refl _ _ | refine bl_out ?_ (by assumption) | refine bl_only ?_ (by assumption) ?_ | exact (Hid.out (by assumption)) | refine bl_alloc ?_ _ | refine bl_drewN ?_ _ | refine bl_drew ?_ | refine bl_set ?_ ?_ _ | omega | (simp; done) | (simp; omega)))⟩
      · subst ho1
        cases ho3 : o3
        · subst ho3
          obtain ⟨rfl, rfl, rfl⟩ := t3_eq (sumL_big HP.out HF.out HA.out HST.out).symm
          go_wp2_with fail
          refine bodyPost_ret (v := .tuple #[.agg #[.int .i64 0, .int .i64 0], .bool false]) ?_ rfl ?_
          · have KR : Blk _ (w.heap.size + 1) #[.int .i64 0, .int .i64 0] := (blk_set (blk_set (blk_other (blk_other Kw22_rH.out (p := ⟨w1.heap.size, 0, none⟩) (v := .int .i64 N3) (by (first | omega | (simp; done) | (simp; omega)))) (p := ⟨w1.heap.size, 1, none⟩) (v := .int .i64 D3) (by (first | omega | (simp; done) | (simp; omega)))) 0 (.int .i64 0)) 1 (.int .i64 0))
            obtain ⟨r0, r1, _, _⟩ := blk2 KR
            simp [results, Try.results36, go_sem, r0, r1]
          · exact ⟨rfl, by (repeat' (first | exact Below.refl _ _ | refine bl_out ?_ (by assumption) | refine bl_only ?_ (by assumption) ?_ | exact (Hid.out (by assumption)) | refine bl_alloc ?_ _ | refine bl_drewN ?_ _ | refine bl_drew ?_ | refine bl_set ?_ ?_ _ | omega | (simp; done) | (simp; omega)))⟩
        · subst ho3
          go_wp2_with fail
          go_roundw
          case rel => exact ⟨k + 1, N3, D3, by omega, by go_num, sumL_step HP.out HF.out HA.out HST.out, (blk_set (blk_set Kw22_sumH.out 0 (.int .i64 N3)) 1 (.int .i64 D3)), on_setR (on_setR (on_below (on_alloc (on_below (on_alloc HG.out _) w21B) _) w22B) rfl _) rfl _⟩
          case measure => simp [intOf]; omega
    · obtain rfl : k = NL := by omega
      have hst2 := HST.out
      rw [← HNL.out] at hst2
      obtain ⟨rfl, rfl, rfl⟩ := t3_eq (sumL_end hst2).symm
      clear hst2 hG
      go_wp2_with fail
      refine bodyPost_ret (v := .tuple #[.agg #[.int .i64 N, .int .i64 D], .bool true]) ?_ rfl ?_
      · have KR : Blk _ (w.heap.size + 1) #[.int .i64 N, .int .i64 D] := (blk_set (blk_set KRH.out 0 (.int .i64 N)) 1 (.int .i64 D))
        obtain ⟨r0, r1, _, _⟩ := blk2 KR
        simp [results, Try.results36, go_sem, r0, r1]
      · exact ⟨rfl, by (repeat' (first | exact Below.refl _ _ | refine bl_out ?_ (by assumption) | refine bl_only ?_ (by assumption) ?_ | exact (Hid.out (by assumption)) | refine bl_alloc ?_ _ | refine bl_drewN ?_ _ | refine bl_drew ?_ | refine bl_set ?_ ?_ _ | omega | (simp; done) | (simp; omega)))⟩

set_option maxRecDepth 100000 in
set_option maxHeartbeats 2000000 in
theorem n_iTot (S L S2 L2 N D : Int) (o : Bool) (w : World) (h : Hid (strT S L S2 L2 = (N, D, o))) :
    Calls Try.prog 19 #[.agg #[.int .i64 S, .int .i64 L], .agg #[.int .i64 S2, .int .i64 L2]] w (fun e w' => e = .returned (.tuple #[.agg #[.int .i64 N, .int .i64 D], .bool o]) ∧ Below w.heap.size w w') := by
  cases ht : tmB S L
  · have h0 := h.out
    rw [strT, if_neg (by simp [ht])] at h0
    obtain ⟨rfl, rfl, rfl⟩ := t3_eq h0
    clear h0
    go_enter Try.func19, Try.ntmps19
    go_wp2_with fail
    refine (i_TermValid _ _ _).mono ?_
    rintro e w1 ⟨rfl, hb1⟩
    have Kw1_t : Blk w1 (w.heap.size) #[.int .i64 S, .int .i64 L] := blk_later hb1 (blk_alloc (blk_alloc (blk_new (by simp)) (.cells #[.int .i64 S2, .int .i64 L2] 24)) (.cells #[.int .i64 0, .int .i64 0] 30))
    have Kw1_x : Blk w1 (w.heap.size + 1) #[.int .i64 S2, .int .i64 L2] := blk_later hb1 (blk_alloc (blk_new (by simp)) (.cells #[.int .i64 0, .int .i64 0] 30))
    have Kw1_r : Blk w1 (w.heap.size + 2) #[.int .i64 0, .int .i64 0] := blk_later hb1 (blk_new (by simp))
    obtain ⟨w1_c0_t, w1_c1_t, w1_f0_t, w1_f1_t⟩ := blk2 Kw1_t
    have Kw1_tH := Lib.hid Kw1_t
    have w1_l_t := Kw1_t.lt
    have w1_m_t : w.heap.size < w1.heap.size + 1 := by omega
    obtain ⟨w1_c0_x, w1_c1_x, w1_f0_x, w1_f1_x⟩ := blk2 Kw1_x
    have Kw1_xH := Lib.hid Kw1_x
    have w1_l_x := Kw1_x.lt
    have w1_m_x : w.heap.size + 1 < w1.heap.size + 1 := by omega
    obtain ⟨w1_c0_r, w1_c1_r, w1_f0_r, w1_f1_r⟩ := blk2 Kw1_r
    have Kw1_rH := Lib.hid Kw1_r
    have w1_l_r := Kw1_r.lt
    have w1_m_r : w.heap.size + 2 < w1.heap.size + 1 := by omega
    have w1z := hb1.size
    try simp at w1z
    have w1B := Lib.hid hb1
    clear Kw1_t Kw1_x Kw1_r
    clear hb1
    rw [ht]
    go_wp2_with fail
    refine bodyPost_ret (v := .tuple #[.agg #[.int .i64 0, .int .i64 0], .bool false]) ?_ rfl ?_
    · have KR : Blk _ (w.heap.size + 2) #[.int .i64 0, .int .i64 0] := (blk_set (blk_set Kw1_rH.out 0 (.int .i64 0)) 1 (.int .i64 0))
      obtain ⟨r0, r1, _, _⟩ := blk2 KR
      simp [results, Try.results19, go_sem, r0, r1]
    · exact ⟨rfl, by (repeat' (first | exact Below.refl _ _ | refine bl_out ?_ (by assumption) | refine bl_only ?_ (by assumption) ?_ | exact (Hid.out (by assumption)) | refine bl_alloc ?_ _ | refine bl_drewN ?_ _ | refine bl_drew ?_ | refine bl_set ?_ ?_ _ | omega | (simp; done) | (simp; omega)))⟩
  cases ht2 : tmB S2 L2
  · have h0 := h.out
    rw [strT_no ht2] at h0
    obtain ⟨rfl, rfl, rfl⟩ := t3_eq h0
    clear h0
    go_enter Try.func19, Try.ntmps19
    go_wp2_with fail
    refine (i_TermValid _ _ _).mono ?_
    rintro e w1 ⟨rfl, hb1⟩
    have Kw1_t : Blk w1 (w.heap.size) #[.int .i64 S, .int .i64 L] := blk_later hb1 (blk_alloc (blk_alloc (blk_new (by simp)) (.cells #[.int .i64 S2, .int .i64 L2] 24)) (.cells #[.int .i64 0, .int .i64 0] 30))
    have Kw1_x : Blk w1 (w.heap.size + 1) #[.int .i64 S2, .int .i64 L2] := blk_later hb1 (blk_alloc (blk_new (by simp)) (.cells #[.int .i64 0, .int .i64 0] 30))
    have Kw1_r : Blk w1 (w.heap.size + 2) #[.int .i64 0, .int .i64 0] := blk_later hb1 (blk_new (by simp))
    obtain ⟨w1_c0_t, w1_c1_t, w1_f0_t, w1_f1_t⟩ := blk2 Kw1_t
    have Kw1_tH := Lib.hid Kw1_t
    have w1_l_t := Kw1_t.lt
    have w1_m_t : w.heap.size < w1.heap.size + 1 := by omega
    obtain ⟨w1_c0_x, w1_c1_x, w1_f0_x, w1_f1_x⟩ := blk2 Kw1_x
    have Kw1_xH := Lib.hid Kw1_x
    have w1_l_x := Kw1_x.lt
    have w1_m_x : w.heap.size + 1 < w1.heap.size + 1 := by omega
    obtain ⟨w1_c0_r, w1_c1_r, w1_f0_r, w1_f1_r⟩ := blk2 Kw1_r
    have Kw1_rH := Lib.hid Kw1_r
    have w1_l_r := Kw1_r.lt
    have w1_m_r : w.heap.size + 2 < w1.heap.size + 1 := by omega
    have w1z := hb1.size
    try simp at w1z
    have w1B := Lib.hid hb1
    clear Kw1_t Kw1_x Kw1_r
    clear hb1
    rw [ht]
    go_wp2_with fail
    refine (i_TermValid _ _ _).mono ?_
    rintro e w2 ⟨rfl, hb2⟩
    have Kw2_t : Blk w2 (w.heap.size) #[.int .i64 S, .int .i64 L] := blk_later hb2 Kw1_tH.out
    have Kw2_x : Blk w2 (w.heap.size + 1) #[.int .i64 S2, .int .i64 L2] := blk_later hb2 Kw1_xH.out
    have Kw2_r : Blk w2 (w.heap.size + 2) #[.int .i64 0, .int .i64 0] := blk_later hb2 Kw1_rH.out
    obtain ⟨w2_c0_t, w2_c1_t, w2_f0_t, w2_f1_t⟩ := blk2 Kw2_t
    have Kw2_tH := Lib.hid Kw2_t
    have w2_l_t := Kw2_t.lt
    have w2_m_t : w.heap.size < w2.heap.size + 1 := by omega
    obtain ⟨w2_c0_x, w2_c1_x, w2_f0_x, w2_f1_x⟩ := blk2 Kw2_x
    have Kw2_xH := Lib.hid Kw2_x
    have w2_l_x := Kw2_x.lt
    have w2_m_x : w.heap.size + 1 < w2.heap.size + 1 := by omega
    obtain ⟨w2_c0_r, w2_c1_r, w2_f0_r, w2_f1_r⟩ := blk2 Kw2_r
    have Kw2_rH := Lib.hid Kw2_r
    have w2_l_r := Kw2_r.lt
    have w2_m_r : w.heap.size + 2 < w2.heap.size + 1 := by omega
    have w2z := hb2.size
    try simp at w2z
    have w2B := Lib.hid hb2
    clear Kw2_t Kw2_x Kw2_r
    clear hb2
    rw [ht2]
    go_wp2_with fail
    refine bodyPost_ret (v := .tuple #[.agg #[.int .i64 0, .int .i64 0], .bool false]) ?_ rfl ?_
    · have KR : Blk _ (w.heap.size + 2) #[.int .i64 0, .int .i64 0] := (blk_set (blk_set Kw2_rH.out 0 (.int .i64 0)) 1 (.int .i64 0))
      obtain ⟨r0, r1, _, _⟩ := blk2 KR
      simp [results, Try.results19, go_sem, r0, r1]
    · exact ⟨rfl, by (repeat' (first | exact Below.refl _ _ | refine bl_out ?_ (by assumption) | refine bl_only ?_ (by assumption) ?_ | exact (Hid.out (by assumption)) | refine bl_alloc ?_ _ | refine bl_drewN ?_ _ | refine bl_drew ?_ | refine bl_set ?_ ?_ _ | omega | (simp; done) | (simp; omega)))⟩
  · have h0 := h.out
    rw [strT, if_pos ht] at h0
    have HT := Lib.hid h0
    clear h0 h
    go_enter Try.func19, Try.ntmps19
    go_wp2_with fail
    refine (i_TermValid _ _ _).mono ?_
    rintro e w1 ⟨rfl, hb1⟩
    have Kw1_t : Blk w1 (w.heap.size) #[.int .i64 S, .int .i64 L] := blk_later hb1 (blk_alloc (blk_alloc (blk_new (by simp)) (.cells #[.int .i64 S2, .int .i64 L2] 24)) (.cells #[.int .i64 0, .int .i64 0] 30))
    have Kw1_x : Blk w1 (w.heap.size + 1) #[.int .i64 S2, .int .i64 L2] := blk_later hb1 (blk_alloc (blk_new (by simp)) (.cells #[.int .i64 0, .int .i64 0] 30))
    have Kw1_r : Blk w1 (w.heap.size + 2) #[.int .i64 0, .int .i64 0] := blk_later hb1 (blk_new (by simp))
    obtain ⟨w1_c0_t, w1_c1_t, w1_f0_t, w1_f1_t⟩ := blk2 Kw1_t
    have Kw1_tH := Lib.hid Kw1_t
    have w1_l_t := Kw1_t.lt
    have w1_m_t : w.heap.size < w1.heap.size + 1 := by omega
    obtain ⟨w1_c0_x, w1_c1_x, w1_f0_x, w1_f1_x⟩ := blk2 Kw1_x
    have Kw1_xH := Lib.hid Kw1_x
    have w1_l_x := Kw1_x.lt
    have w1_m_x : w.heap.size + 1 < w1.heap.size + 1 := by omega
    obtain ⟨w1_c0_r, w1_c1_r, w1_f0_r, w1_f1_r⟩ := blk2 Kw1_r
    have Kw1_rH := Lib.hid Kw1_r
    have w1_l_r := Kw1_r.lt
    have w1_m_r : w.heap.size + 2 < w1.heap.size + 1 := by omega
    have w1z := hb1.size
    try simp at w1z
    have w1B := Lib.hid hb1
    clear Kw1_t Kw1_x Kw1_r
    clear hb1
    rw [ht]
    go_wp2_with fail
    refine (i_TermValid _ _ _).mono ?_
    rintro e w2 ⟨rfl, hb2⟩
    have Kw2_t : Blk w2 (w.heap.size) #[.int .i64 S, .int .i64 L] := blk_later hb2 Kw1_tH.out
    have Kw2_x : Blk w2 (w.heap.size + 1) #[.int .i64 S2, .int .i64 L2] := blk_later hb2 Kw1_xH.out
    have Kw2_r : Blk w2 (w.heap.size + 2) #[.int .i64 0, .int .i64 0] := blk_later hb2 Kw1_rH.out
    obtain ⟨w2_c0_t, w2_c1_t, w2_f0_t, w2_f1_t⟩ := blk2 Kw2_t
    have Kw2_tH := Lib.hid Kw2_t
    have w2_l_t := Kw2_t.lt
    have w2_m_t : w.heap.size < w2.heap.size + 1 := by omega
    obtain ⟨w2_c0_x, w2_c1_x, w2_f0_x, w2_f1_x⟩ := blk2 Kw2_x
    have Kw2_xH := Lib.hid Kw2_x
    have w2_l_x := Kw2_x.lt
    have w2_m_x : w.heap.size + 1 < w2.heap.size + 1 := by omega
    obtain ⟨w2_c0_r, w2_c1_r, w2_f0_r, w2_f1_r⟩ := blk2 Kw2_r
    have Kw2_rH := Lib.hid Kw2_r
    have w2_l_r := Kw2_r.lt
    have w2_m_r : w.heap.size + 2 < w2.heap.size + 1 := by omega
    have w2z := hb2.size
    try simp at w2z
    have w2B := Lib.hid hb2
    clear Kw2_t Kw2_x Kw2_r
    clear hb2
    rw [ht2]
    go_wp2_with fail
    refine (n_over2 _ _ _ _ _ _ _ _ _ Kw2_xH.out ht  HT).mono ?_
    rintro e w3 ⟨rfl, hb3⟩
    have Kw3_t : Blk w3 (w.heap.size) #[.int .i64 S, .int .i64 L] := blk_later hb3 Kw2_tH.out
    have Kw3_x : Blk w3 (w.heap.size + 1) #[.int .i64 S2, .int .i64 L2] := blk_later hb3 Kw2_xH.out
    have Kw3_r : Blk w3 (w.heap.size + 2) #[.int .i64 0, .int .i64 0] := blk_later hb3 Kw2_rH.out
    obtain ⟨w3_c0_t, w3_c1_t, w3_f0_t, w3_f1_t⟩ := blk2 Kw3_t
    have Kw3_tH := Lib.hid Kw3_t
    have w3_l_t := Kw3_t.lt
    have w3_m_t : w.heap.size < w3.heap.size + 1 := by omega
    obtain ⟨w3_c0_x, w3_c1_x, w3_f0_x, w3_f1_x⟩ := blk2 Kw3_x
    have Kw3_xH := Lib.hid Kw3_x
    have w3_l_x := Kw3_x.lt
    have w3_m_x : w.heap.size + 1 < w3.heap.size + 1 := by omega
    obtain ⟨w3_c0_r, w3_c1_r, w3_f0_r, w3_f1_r⟩ := blk2 Kw3_r
    have Kw3_rH := Lib.hid Kw3_r
    have w3_l_r := Kw3_r.lt
    have w3_m_r : w.heap.size + 2 < w3.heap.size + 1 := by omega
    have w3z := hb3.size
    try simp at w3z
    have w3B := Lib.hid hb3
    clear Kw3_t Kw3_x Kw3_r
    clear hb3
    go_wp2_with fail
    refine bodyPost_ret (v := .tuple #[.agg #[.int .i64 N, .int .i64 D], .bool o]) ?_ rfl ?_
    · have KR : Blk _ (w.heap.size + 2) #[.int .i64 N, .int .i64 D] := (blk_set (blk_set Kw3_rH.out 0 (.int .i64 N)) 1 (.int .i64 D))
      obtain ⟨r0, r1, _, _⟩ := blk2 KR
      simp [results, Try.results19, go_sem, r0, r1]
    · exact ⟨rfl, by (repeat' (first | exact Below.refl _ _ | refine bl_out ?_ (by assumption) | refine bl_only ?_ (by assumption) ?_ | exact (Hid.out (by assumption)) | refine bl_alloc ?_ _ | refine bl_drewN ?_ _ | refine bl_drew ?_ | refine bl_set ?_ ?_ _ | omega | (simp; done) | (simp; omega)))⟩

end Go.Proofs.Ytneihommpncegaa
