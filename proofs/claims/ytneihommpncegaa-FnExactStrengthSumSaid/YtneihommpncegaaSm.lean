/- Contracts of StrengthSum and StrengthTotal, of the reference. -/
import Derived.Test.YtneihommpncegaaPsm
import Derived.Test.YtneihommpncegaaSt
import Derived.Test.YtneihommpncegaaRk
import Derived.Test.YtneihommpncegaaJ
import Derived.Deep.DeepCutAuto
namespace Go.Proofs.Ytneihommpncegaa
open Go.RowKit
set_option linter.unusedVariables false

theorem t3_eq {a b N D : Int} {c o : Bool} (h : (a, b, c) = (N, D, o)) : N = a ∧ D = b ∧ o = c := by
  simp only [Prod.mk.injEq] at h
  exact ⟨h.1.symm, h.2.1.symm, h.2.2.symm⟩
theorem m_sLine (s l j s2 l2 j2 N D : Int) (o : Bool) (w : World) (h : Hid (lsI s l j s2 l2 j2 = (N, D, o))) :
    Calls Try.prog 10 #[.agg #[.int .i64 s, .int .i64 l, .int .i64 j], .agg #[.int .i64 s2, .int .i64 l2, .int .i64 j2]] w fun e w' => e = .returned (.tuple #[.agg #[.int .i64 N, .int .i64 D], .bool o]) ∧ Below w.heap.size w w' :=
  (s_LineStrength s l j s2 l2 j2 w).mono fun e w' ⟨he, hb⟩ => ⟨by rw [he, h.out]; rfl, hb⟩
theorem m_iLine (s l j s2 l2 j2 N D : Int) (o : Bool) (w : World) (h : Hid (lsI s l j s2 l2 j2 = (N, D, o))) :
    Calls Try.prog 9 #[.agg #[.int .i64 s, .int .i64 l, .int .i64 j], .agg #[.int .i64 s2, .int .i64 l2, .int .i64 j2]] w fun e w' => e = .returned (.tuple #[.agg #[.int .i64 N, .int .i64 D], .bool o]) ∧ Below w.heap.size w w' :=
  (i_LineStrength s l j s2 l2 j2 w).mono fun e w' ⟨he, hb⟩ => ⟨by rw [he, h.out]; rfl, hb⟩
theorem m_sAdd (a b c d N D : Int) (o : Bool) (w : World) (h : Hid (ratAdd a b c d = (N, D, o))) :
    Calls Try.prog 34 #[.agg #[.int .i64 a, .int .i64 b], .agg #[.int .i64 c, .int .i64 d]] w fun e w' => e = .returned (.tuple #[.agg #[.int .i64 N, .int .i64 D], .bool o]) ∧ Below w.heap.size w w' :=
  (s_RatAdd a b c d w).mono fun e w' ⟨he, hb⟩ => ⟨by rw [he, h.out]; rfl, hb⟩

set_option maxRecDepth 100000 in
set_option maxHeartbeats 2000000 in
theorem m_sSum (s l j S L N D : Int) (o : Bool) (w : World) (h : Hid (strS s l j S L = (N, D, o))) :
    Calls Try.prog 13 #[.agg #[.int .i64 s, .int .i64 l, .int .i64 j], .agg #[.int .i64 S, .int .i64 L]] w (fun e w' => e = .returned (.tuple #[.agg #[.int .i64 N, .int .i64 D], .bool o]) ∧ Below w.heap.size w w') := by
  cases ht : tmB S L
  · have h0 := h.out
    rw [strS, if_neg (by simp [ht])] at h0
    obtain ⟨rfl, rfl, rfl⟩ := t3_eq h0
    clear h0
    go_enter Try.func13, Try.ntmps13
    go_wp2_with fail
    refine (s_LevelsOf _ _ _).mono ?_
    rintro e w1 ⟨v, rfl, hv, hb1⟩
    have Kw1_x : Blk w1 (w.heap.size) #[.int .i64 s, .int .i64 l, .int .i64 j] := blk_later hb1 (blk_alloc (blk_alloc (blk_alloc (blk_new (by simp)) (.cells #[.int .i64 S, .int .i64 L] 24)) (.cells #[.int .i64 0, .int .i64 0] 30)) (.cells #[.int .i64 0, .int .i64 1] 30))
    have Kw1_r : Blk w1 (w.heap.size + 2) #[.int .i64 0, .int .i64 0] := blk_later hb1 (blk_alloc (blk_new (by simp)) (.cells #[.int .i64 0, .int .i64 1] 30))
    have Kw1_sum : Blk w1 (w.heap.size + 3) #[.int .i64 0, .int .i64 1] := blk_later hb1 (blk_new (by simp))
    obtain ⟨w1_c0_x, w1_c1_x, w1_c2_x, w1_f0_x, w1_f1_x, w1_f2_x⟩ := blk3 Kw1_x
    have Kw1_xH := Lib.hid Kw1_x
    have w1_l_x := Kw1_x.lt
    have w1_m_x : w.heap.size < w1.heap.size + 1 := by omega
    obtain ⟨w1_c0_r, w1_c1_r, w1_f0_r, w1_f1_r⟩ := blk2 Kw1_r
    have Kw1_rH := Lib.hid Kw1_r
    have w1_l_r := Kw1_r.lt
    have w1_m_r : w.heap.size + 2 < w1.heap.size + 1 := by omega
    obtain ⟨w1_c0_sum, w1_c1_sum, w1_f0_sum, w1_f1_sum⟩ := blk2 Kw1_sum
    have Kw1_sumH := Lib.hid Kw1_sum
    have w1_l_sum := Kw1_sum.lt
    have w1_m_sum : w.heap.size + 3 < w1.heap.size + 1 := by omega
    have w1z := hb1.size
    try simp at w1z
    have w1B := Lib.hid hb1
    clear Kw1_x Kw1_r Kw1_sum
    clear hb1
    rw [show lvlsL S L = [] by simp [lvlsL, ht]] at hv
    obtain ⟨a, cap, rfl, _, _⟩ := SRow.opened lcs_len hv
    clear hv
    simp only [List.length_nil]
    go_wp2_with fail
    refine wp_loop_rounds 1 ?_
    rw [rounds_succ]
    go_wp2_with fail
    refine bodyPost_ret (v := .tuple #[.agg #[.int .i64 0, .int .i64 0], .bool false]) ?_ rfl ?_
    · have KR : Blk _ (w.heap.size + 2) #[.int .i64 0, .int .i64 0] := (blk_set (blk_set Kw1_rH.out 0 (.int .i64 0)) 1 (.int .i64 0))
      obtain ⟨r0, r1, _, _⟩ := blk2 KR
      simp [results, Try.results13, go_sem, r0, r1]
    · exact ⟨rfl, by (repeat' (first | exact Below.refl _ _ | refine bl_out ?_ (by assumption) | refine bl_only ?_ (by assumption) ?_ | exact (Hid.out (by assumption)) | refine bl_alloc ?_ _ | refine bl_drewN ?_ _ | refine bl_drew ?_ | refine bl_set ?_ ?_ _ | omega | (simp; done) | (simp; omega)))⟩
  · have h0 := h.out
    rw [strS, if_pos ht] at h0
    have HT := Lib.hid h0
    clear h0 h
    go_enter Try.func13, Try.ntmps13
    go_wp2_with fail
    refine (s_LevelsOf _ _ _).mono ?_
    rintro e w1 ⟨v, rfl, hv, hb1⟩
    have Kw1_x : Blk w1 (w.heap.size) #[.int .i64 s, .int .i64 l, .int .i64 j] := blk_later hb1 (blk_alloc (blk_alloc (blk_alloc (blk_new (by simp)) (.cells #[.int .i64 S, .int .i64 L] 24)) (.cells #[.int .i64 0, .int .i64 0] 30)) (.cells #[.int .i64 0, .int .i64 1] 30))
    have Kw1_r : Blk w1 (w.heap.size + 2) #[.int .i64 0, .int .i64 0] := blk_later hb1 (blk_alloc (blk_new (by simp)) (.cells #[.int .i64 0, .int .i64 1] 30))
    have Kw1_sum : Blk w1 (w.heap.size + 3) #[.int .i64 0, .int .i64 1] := blk_later hb1 (blk_new (by simp))
    obtain ⟨w1_c0_x, w1_c1_x, w1_c2_x, w1_f0_x, w1_f1_x, w1_f2_x⟩ := blk3 Kw1_x
    have Kw1_xH := Lib.hid Kw1_x
    have w1_l_x := Kw1_x.lt
    have w1_m_x : w.heap.size < w1.heap.size + 1 := by omega
    obtain ⟨w1_c0_r, w1_c1_r, w1_f0_r, w1_f1_r⟩ := blk2 Kw1_r
    have Kw1_rH := Lib.hid Kw1_r
    have w1_l_r := Kw1_r.lt
    have w1_m_r : w.heap.size + 2 < w1.heap.size + 1 := by omega
    obtain ⟨w1_c0_sum, w1_c1_sum, w1_f0_sum, w1_f1_sum⟩ := blk2 Kw1_sum
    have Kw1_sumH := Lib.hid Kw1_sum
    have w1_l_sum := Kw1_sum.lt
    have w1_m_sum : w.heap.size + 3 < w1.heap.size + 1 := by omega
    have w1z := hb1.size
    try simp at w1z
    have w1B := Lib.hid hb1
    clear Kw1_x Kw1_r Kw1_sum
    clear hb1
    obtain ⟨hn1, hn2⟩ := lvls_one ht
    obtain ⟨a0, cap, rfl, hmx, hc⟩ := SRow.opened lcs_len hv
    rcases hc with hc | ⟨g, rfl, hg1, hg2, hc⟩
    · rw [hc] at hn1; simp at hn1
    have HC : Hid (∀ (k : Nat) (p : Int × Int × Int), (lvlsL S L)[k]? = some p → w1.cell? ⟨g, k * 3, none⟩ = some (.int .i64 p.1) ∧ w1.cell? ⟨g, k * 3 + 1, none⟩ = some (.int .i64 p.2.1) ∧ w1.cell? ⟨g, k * 3 + 2, none⟩ = some (.int .i64 p.2.2)) :=
      Lib.hid (fun k p hk => ⟨hc k 0 _ _ hk rfl, hc k 1 _ _ hk rfl, hc k 2 _ _ hk rfl⟩)
    clear hc hv hmx ht
    try simp at hg1
    have BW1 : Hid (Below w.heap.size w w1) := Lib.hid (by (repeat' (first | exact Below.refl _ _ | refine bl_out ?_ (by assumption) | exact (Hid.out (by assumption)) | refine bl_alloc ?_ _ | refine bl_drewN ?_ _ | refine bl_drew ?_ | refine bl_set ?_ ?_ _ | omega | (simp; done) | (simp; omega))))
    generalize lvlsL S L = xs at *
    obtain ⟨NL, hNL⟩ : ∃ NL, xs.length = NL := ⟨_, rfl⟩
    rw [hNL] at hn1 hn2
    rw [hNL]
    have HNL := Lib.hid hNL
    clear hNL
    go_wp2_with fail
    go_loopw [8] (fun i wr => ∃ (k : Nat) (N2 D2 : Int), k ≤ NL ∧ i = .int .i64 k ∧ sumL (lsI s l j) (xs.drop k) N2 D2 = (N, D, o) ∧ Blk wr (w.heap.size + 3) #[.int .i64 N2, .int .i64 D2] ∧ w1.grownBy wr (some (w.heap.size + 3))) (fun i _ => NL - (intOf i).toNat)
    case atStart => exact ⟨0, 0, 1, Nat.zero_le _, rfl, by rw [List.drop_zero]; exact HT.out, Kw1_sumH.out, on_refl _ _⟩
    case round =>
      obtain ⟨k, N2, D2, hk, rfl, hst, KS, hG⟩ := hrel
      have HST := Lib.hid hst
      have HG := Lib.hid hG
      have hsz := hG.size
      have HNX : Hid (Below w.heap.size w wr) := Lib.hid (bl_only BW1.out HG (by omega))
      have Kx := blk_only hG (by omega) Kw1_xH.out
      have Kr := blk_only hG (by omega) Kw1_rH.out
      obtain ⟨kx0, kx1, kx2, kx3, kx4, kx5⟩ := blk3 Kx
      obtain ⟨kr0, kr1, kr2, kr3⟩ := blk2 Kr
      obtain ⟨ks0, ks1, ks2, ks3⟩ := blk2 KS
      have KXH := Lib.hid Kx
      have KRH := Lib.hid Kr
      have KSH := Lib.hid KS
      have kxl := Kx.lt
      have krl := Kr.lt
      have ksl := KS.lt
      have gl : g < wr.heap.size := Nat.lt_of_lt_of_le hg2 hsz
      clear hst KS Kx Kr
      by_cases hlt : k < NL
      · skip
        obtain ⟨⟨a, b, c⟩, hp⟩ : ∃ p, xs[k]? = some p := ⟨_, List.getElem?_eq_getElem (by rw [HNL.out]; exact hlt)⟩
        obtain ⟨e0, e1, e2⟩ := HC.out k _ hp
        have hne : some (w.heap.size + 3) ≠ some g := by intro e; injection e with e; omega
        have f0 := grown_cell hG e0 hg2 hne
        have f1 := grown_cell hG e1 hg2 hne
        have f2 := grown_cell hG e2 hg2 hne
        have HP := Lib.hid hp
        obtain ⟨N1, D1, o1, hF⟩ := pair3 (lsI s l j a b c)
        have HF := Lib.hid hF
        clear hp hF e0 e1 e2 hG hne
        go_upto_region 6 with fail
        have xl0 : g < wr.heap.size := by omega
        have xc0 : wr.cell? ⟨g, k * 3, none⟩ = some (.int .i64 a) := by exact f0
        have xl1 : g < wr.heap.size := by omega
        have xc1 : wr.cell? ⟨g, k * 3 + 1, none⟩ = some (.int .i64 b) := by exact f1
        have xl2 : g < wr.heap.size := by omega
        have xc2 : wr.cell? ⟨g, k * 3 + 2, none⟩ = some (.int .i64 c) := by exact f2
        have Kz21_x : Blk wr (w.heap.size) #[.int .i64 s, .int .i64 l, .int .i64 j] := KXH.out
        have Kz21_r : Blk wr (w.heap.size + 2) #[.int .i64 0, .int .i64 0] := KRH.out
        have Kz21_sum : Blk wr (w.heap.size + 3) #[.int .i64 N2, .int .i64 D2] := KSH.out
        have Bz21 : Below w.heap.size w wr := by (repeat' (first | exact Below.refl _ _ | refine bl_out ?_ (by assumption) | exact (Hid.out (by assumption)) | refine bl_alloc ?_ _ | refine bl_drewN ?_ _ | refine bl_drew ?_ | refine bl_set ?_ ?_ _ | omega | (simp; done) | (simp; omega)))
        generalize wr = z21 at *
        obtain ⟨z21_c0_x, z21_c1_x, z21_c2_x, z21_f0_x, z21_f1_x, z21_f2_x⟩ := blk3 Kz21_x
        have Kz21_xH := Lib.hid Kz21_x
        have z21_l_x := Kz21_x.lt
        obtain ⟨z21_c0_r, z21_c1_r, z21_f0_r, z21_f1_r⟩ := blk2 Kz21_r
        have Kz21_rH := Lib.hid Kz21_r
        have z21_l_r := Kz21_r.lt
        obtain ⟨z21_c0_sum, z21_c1_sum, z21_f0_sum, z21_f1_sum⟩ := blk2 Kz21_sum
        have Kz21_sumH := Lib.hid Kz21_sum
        have z21_l_sum := Kz21_sum.lt
        have z21B := Lib.hid Bz21
        clear Bz21
        clear Kz21_x Kz21_r Kz21_sum
        go_cut [9, 10] (CutBlk z21 #[.int .i64 N1, .int .i64 D1] o1)
        case first =>
          go_region_held3 (fun w' => Below z21.heap.size z21 w' ∧ w'.cell? ⟨w.heap.size, 0, none⟩ = some (.int .i64 s) ∧ w'.cell? ⟨w.heap.size, 1, none⟩ = some (.int .i64 l) ∧ w'.cell? ⟨w.heap.size, 2, none⟩ = some (.int .i64 j) ∧ w'.cell? ⟨g, k * 3, none⟩ = some (.int .i64 a) ∧ w'.cell? ⟨g, k * 3 + 1, none⟩ = some (.int .i64 b) ∧ w'.cell? ⟨g, k * 3 + 2, none⟩ = some (.int .i64 c)) ((refine and_keep ?_ (fun hB => ⟨held_cell hB z21_c0_x z21_l_x, held_cell hB z21_c1_x z21_l_x, held_cell hB z21_c2_x z21_l_x, held_cell hB xc0 xl0, held_cell hB xc1 xl1, held_cell hB xc2 xl2⟩); (repeat' (first | with_reducible exact Below.refl _ _ | with_reducible refine bl_alloc ?_ _ | with_reducible refine bl_set ?_ ?_ _ | exact (Below.refl _ _).drew | with_reducible refine bl_drew ?_ | with_reducible refine btr ?_ hbA | omega | (simp; done) | (simp; omega))))) (first | (go_at_call 10; refine (m_sLine _ _ _ _ _ _ _ _ _ _ HF).mono ?_; rintro e wA ⟨rfl, hbA⟩; obtain ⟨hcA, hfA⟩ := bcell hbA; have hzA : z21.heap.size ≤ wA.heap.size := (by first | exact hbA.size | exact Nat.le_trans hzA hbA.size | (have h0 := hbA.size; (try simp at h0); omega)); (try (have hyA : z21.heap.size < wA.heap.size := by (have h0 := hbA.size; (try simp at h0); omega)))))
          all_goals
            go_wp2_with fail
            go_meet
            exact ⟨_, rfl, rfl, by (first | omega | (simp; omega)), by (repeat' (first | exact blk_new (by simp) | with_reducible refine blk_store2 (x := .int .i64 0) (y := .int .i64 0) ?_ | with_reducible refine blk_store3 (x := .int .i64 0) (y := .int .i64 0) (z := .int .i64 0) ?_ | with_reducible refine blk_drew ?_ | with_reducible refine blk_later hbA ?_)), by (repeat' (first | with_reducible exact Below.refl _ _ | with_reducible refine bl_alloc ?_ _ | with_reducible refine bl_set ?_ ?_ _ | exact (Below.refl _ _).drew | with_reducible refine bl_drew ?_ | with_reducible refine btr ?_ hbA | omega | (simp; done) | (simp; omega)))⟩
        case rest =>
          obtain ⟨g22, rfl, rfl, g22z, Kg22, hb22⟩ := hcut
          obtain ⟨w22, rfl⟩ : ∃ x, x = wc := ⟨_, rfl⟩
          have Kw22_r : Blk w22 (w.heap.size + 2) #[.int .i64 0, .int .i64 0] := blk_later hb22 Kz21_rH.out
          have Kw22_sum : Blk w22 (w.heap.size + 3) #[.int .i64 N2, .int .i64 D2] := blk_later hb22 Kz21_sumH.out
          obtain ⟨w22_c0_r, w22_c1_r, w22_f0_r, w22_f1_r⟩ := blk2 Kw22_r
          have Kw22_rH := Lib.hid Kw22_r
          have w22_l_r := Kw22_r.lt
          have w22_m_r : w.heap.size + 2 < w22.heap.size + 1 := by omega
          obtain ⟨w22_c0_sum, w22_c1_sum, w22_f0_sum, w22_f1_sum⟩ := blk2 Kw22_sum
          have Kw22_sumH := Lib.hid Kw22_sum
          have w22_l_sum := Kw22_sum.lt
          have w22_m_sum : w.heap.size + 3 < w22.heap.size + 1 := by omega
          have w22z := hb22.size
          try simp at w22z
          have w22B := Lib.hid hb22
          clear Kw22_r Kw22_sum
          clear hb22
          obtain ⟨w22_c0_y, w22_c1_y, w22_f0_y, w22_f1_y⟩ := blk2 Kg22
          have Kg22H := Lib.hid Kg22
          have w22_l_y := Kg22.lt
          clear Kg22
          cases ho1 : o1
          · subst ho1
            obtain ⟨rfl, rfl, rfl⟩ := t3_eq (sumL_no HP.out HF.out HST.out).symm
            go_wp2_with fail
            refine bodyPost_ret (v := .tuple #[.agg #[.int .i64 0, .int .i64 0], .bool false]) ?_ rfl ?_
            · have KR : Blk _ (w.heap.size + 2) #[.int .i64 0, .int .i64 0] := (blk_set (blk_set Kw22_rH.out 0 (.int .i64 0)) 1 (.int .i64 0))
              obtain ⟨r0, r1, _, _⟩ := blk2 KR
              simp [results, Try.results13, go_sem, r0, r1]
            · exact ⟨rfl, by (repeat' (first | exact Below.refl _ _ | refine bl_out ?_ (by assumption) | refine bl_only ?_ (by assumption) ?_ | exact (Hid.out (by assumption)) | refine bl_alloc ?_ _ | refine bl_drewN ?_ _ | refine bl_drew ?_ | refine bl_set ?_ ?_ _ | omega | (simp; done) | (simp; omega)))⟩
          · subst ho1
            obtain ⟨N3, D3, o3, hA⟩ := pair3 (ratAdd N2 D2 N1 D1)
            have HA := Lib.hid hA
            clear hA
            go_wp2_with fail
            refine (m_sAdd _ _ _ _ _ _ _ _ HA).mono ?_
            rintro e w23 ⟨rfl, hb23⟩
            have Kw23_r : Blk w23 (w.heap.size + 2) #[.int .i64 0, .int .i64 0] := blk_later hb23 Kw22_rH.out
            have Kw23_sum : Blk w23 (w.heap.size + 3) #[.int .i64 N2, .int .i64 D2] := blk_later hb23 Kw22_sumH.out
            have Kw23_y : Blk w23 (g22) #[.int .i64 N1, .int .i64 D1] := blk_later hb23 Kg22H.out
            obtain ⟨w23_c0_r, w23_c1_r, w23_f0_r, w23_f1_r⟩ := blk2 Kw23_r
            have Kw23_rH := Lib.hid Kw23_r
            have w23_l_r := Kw23_r.lt
            have w23_m_r : w.heap.size + 2 < w23.heap.size + 1 := by omega
            obtain ⟨w23_c0_sum, w23_c1_sum, w23_f0_sum, w23_f1_sum⟩ := blk2 Kw23_sum
            have Kw23_sumH := Lib.hid Kw23_sum
            have w23_l_sum := Kw23_sum.lt
            have w23_m_sum : w.heap.size + 3 < w23.heap.size + 1 := by omega
            obtain ⟨w23_c0_y, w23_c1_y, w23_f0_y, w23_f1_y⟩ := blk2 Kw23_y
            have Kw23_yH := Lib.hid Kw23_y
            have w23_l_y := Kw23_y.lt
            have w23_m_y : g22 < w23.heap.size + 1 := by omega
            have w23z := hb23.size
            try simp at w23z
            have w23B := Lib.hid hb23
            clear Kw23_r Kw23_sum Kw23_y
            clear hb23
            cases ho3 : o3
            · subst ho3
              obtain ⟨rfl, rfl, rfl⟩ := t3_eq (sumL_big HP.out HF.out HA.out HST.out).symm
              go_wp2_with fail
              refine bodyPost_ret (v := .tuple #[.agg #[.int .i64 0, .int .i64 0], .bool false]) ?_ rfl ?_
              · have KR : Blk _ (w.heap.size + 2) #[.int .i64 0, .int .i64 0] := (blk_set (blk_set (blk_other (blk_other Kw23_rH.out (p := ⟨w.heap.size + 3, 0, none⟩) (v := .int .i64 N3) (by (first | omega | (simp; done) | (simp; omega)))) (p := ⟨w.heap.size + 3, 1, none⟩) (v := .int .i64 D3) (by (first | omega | (simp; done) | (simp; omega)))) 0 (.int .i64 0)) 1 (.int .i64 0))
                obtain ⟨r0, r1, _, _⟩ := blk2 KR
                simp [results, Try.results13, go_sem, r0, r1]
              · exact ⟨rfl, by (repeat' (first | exact Below.refl _ _ | refine bl_out ?_ (by assumption) | refine bl_only ?_ (by assumption) ?_ | exact (Hid.out (by assumption)) | refine bl_alloc ?_ _ | refine bl_drewN ?_ _ | refine bl_drew ?_ | refine bl_set ?_ ?_ _ | omega | (simp; done) | (simp; omega)))⟩
            · subst ho3
              go_wp2_with fail
              go_roundw
              case rel => exact ⟨k + 1, N3, D3, by omega, by go_num, sumL_step HP.out HF.out HA.out HST.out, (blk_set (blk_set Kw23_sumH.out 0 (.int .i64 N3)) 1 (.int .i64 D3)), on_setR (on_setR (on_below (on_below HG.out w22B) w23B) rfl _) rfl _⟩
              case measure => simp [intOf]; omega
      · obtain rfl : k = NL := by omega
        have hst2 := HST.out
        rw [← HNL.out] at hst2
        obtain ⟨rfl, rfl, rfl⟩ := t3_eq (sumL_end hst2).symm
        have hz : ((k : Int) == 0) = false := by simp; omega
        clear hst2 hG
        go_wp2_with fail
        refine bodyPost_ret (v := .tuple #[.agg #[.int .i64 N, .int .i64 D], .bool true]) ?_ rfl ?_
        · have KR : Blk _ (w.heap.size + 2) #[.int .i64 N, .int .i64 D] := (blk_set (blk_set KRH.out 0 (.int .i64 N)) 1 (.int .i64 D))
          obtain ⟨r0, r1, _, _⟩ := blk2 KR
          simp [results, Try.results13, go_sem, r0, r1]
        · exact ⟨rfl, by (repeat' (first | exact Below.refl _ _ | refine bl_out ?_ (by assumption) | refine bl_only ?_ (by assumption) ?_ | exact (Hid.out (by assumption)) | refine bl_alloc ?_ _ | refine bl_drewN ?_ _ | refine bl_drew ?_ | refine bl_set ?_ ?_ _ | omega | (simp; done) | (simp; omega)))⟩

set_option maxRecDepth 100000 in
set_option maxHeartbeats 2000000 in
theorem m_sTot (S L S2 L2 N D : Int) (o : Bool) (w : World) (h : Hid (strT S L S2 L2 = (N, D, o))) :
    Calls Try.prog 18 #[.agg #[.int .i64 S, .int .i64 L], .agg #[.int .i64 S2, .int .i64 L2]] w (fun e w' => e = .returned (.tuple #[.agg #[.int .i64 N, .int .i64 D], .bool o]) ∧ Below w.heap.size w w') := by
  cases ht : tmB S L
  · have h0 := h.out
    rw [strT, if_neg (by simp [ht])] at h0
    obtain ⟨rfl, rfl, rfl⟩ := t3_eq h0
    clear h0
    go_enter Try.func18, Try.ntmps18
    go_wp2_with fail
    refine (s_LevelsOf _ _ _).mono ?_
    rintro e w1 ⟨v, rfl, hv, hb1⟩
    have Kw1_b : Blk w1 (w.heap.size + 1) #[.int .i64 S2, .int .i64 L2] := blk_later hb1 (blk_alloc (blk_alloc (blk_new (by simp)) (.cells #[.int .i64 0, .int .i64 0] 30)) (.cells #[.int .i64 0, .int .i64 1] 30))
    have Kw1_r : Blk w1 (w.heap.size + 2) #[.int .i64 0, .int .i64 0] := blk_later hb1 (blk_alloc (blk_new (by simp)) (.cells #[.int .i64 0, .int .i64 1] 30))
    have Kw1_sum : Blk w1 (w.heap.size + 3) #[.int .i64 0, .int .i64 1] := blk_later hb1 (blk_new (by simp))
    obtain ⟨w1_c0_b, w1_c1_b, w1_f0_b, w1_f1_b⟩ := blk2 Kw1_b
    have Kw1_bH := Lib.hid Kw1_b
    have w1_l_b := Kw1_b.lt
    have w1_m_b : w.heap.size + 1 < w1.heap.size + 1 := by omega
    obtain ⟨w1_c0_r, w1_c1_r, w1_f0_r, w1_f1_r⟩ := blk2 Kw1_r
    have Kw1_rH := Lib.hid Kw1_r
    have w1_l_r := Kw1_r.lt
    have w1_m_r : w.heap.size + 2 < w1.heap.size + 1 := by omega
    obtain ⟨w1_c0_sum, w1_c1_sum, w1_f0_sum, w1_f1_sum⟩ := blk2 Kw1_sum
    have Kw1_sumH := Lib.hid Kw1_sum
    have w1_l_sum := Kw1_sum.lt
    have w1_m_sum : w.heap.size + 3 < w1.heap.size + 1 := by omega
    have w1z := hb1.size
    try simp at w1z
    have w1B := Lib.hid hb1
    clear Kw1_b Kw1_r Kw1_sum
    clear hb1
    rw [show lvlsL S L = [] by simp [lvlsL, ht]] at hv
    obtain ⟨a, cap, rfl, _, _⟩ := SRow.opened lcs_len hv
    clear hv
    simp only [List.length_nil]
    go_wp2_with fail
    refine wp_loop_rounds 1 ?_
    rw [rounds_succ]
    go_wp2_with fail
    refine bodyPost_ret (v := .tuple #[.agg #[.int .i64 0, .int .i64 0], .bool false]) ?_ rfl ?_
    · have KR : Blk _ (w.heap.size + 2) #[.int .i64 0, .int .i64 0] := (blk_set (blk_set Kw1_rH.out 0 (.int .i64 0)) 1 (.int .i64 0))
      obtain ⟨r0, r1, _, _⟩ := blk2 KR
      simp [results, Try.results18, go_sem, r0, r1]
    · exact ⟨rfl, by (repeat' (first | exact Below.refl _ _ | refine bl_out ?_ (by assumption) | refine bl_only ?_ (by assumption) ?_ | exact (Hid.out (by assumption)) | refine bl_alloc ?_ _ | refine bl_drewN ?_ _ | refine bl_drew ?_ | refine bl_set ?_ ?_ _ | omega | (simp; done) | (simp; omega)))⟩
  · have h0 := h.out
    rw [strT, if_pos ht] at h0
    have HT := Lib.hid h0
    clear h0 h
    go_enter Try.func18, Try.ntmps18
    go_wp2_with fail
    refine (s_LevelsOf _ _ _).mono ?_
    rintro e w1 ⟨v, rfl, hv, hb1⟩
    have Kw1_b : Blk w1 (w.heap.size + 1) #[.int .i64 S2, .int .i64 L2] := blk_later hb1 (blk_alloc (blk_alloc (blk_new (by simp)) (.cells #[.int .i64 0, .int .i64 0] 30)) (.cells #[.int .i64 0, .int .i64 1] 30))
    have Kw1_r : Blk w1 (w.heap.size + 2) #[.int .i64 0, .int .i64 0] := blk_later hb1 (blk_alloc (blk_new (by simp)) (.cells #[.int .i64 0, .int .i64 1] 30))
    have Kw1_sum : Blk w1 (w.heap.size + 3) #[.int .i64 0, .int .i64 1] := blk_later hb1 (blk_new (by simp))
    obtain ⟨w1_c0_b, w1_c1_b, w1_f0_b, w1_f1_b⟩ := blk2 Kw1_b
    have Kw1_bH := Lib.hid Kw1_b
    have w1_l_b := Kw1_b.lt
    have w1_m_b : w.heap.size + 1 < w1.heap.size + 1 := by omega
    obtain ⟨w1_c0_r, w1_c1_r, w1_f0_r, w1_f1_r⟩ := blk2 Kw1_r
    have Kw1_rH := Lib.hid Kw1_r
    have w1_l_r := Kw1_r.lt
    have w1_m_r : w.heap.size + 2 < w1.heap.size + 1 := by omega
    obtain ⟨w1_c0_sum, w1_c1_sum, w1_f0_sum, w1_f1_sum⟩ := blk2 Kw1_sum
    have Kw1_sumH := Lib.hid Kw1_sum
    have w1_l_sum := Kw1_sum.lt
    have w1_m_sum : w.heap.size + 3 < w1.heap.size + 1 := by omega
    have w1z := hb1.size
    try simp at w1z
    have w1B := Lib.hid hb1
    clear Kw1_b Kw1_r Kw1_sum
    clear hb1
    obtain ⟨hn1, hn2⟩ := lvls_one ht
    obtain ⟨a0, cap, rfl, hmx, hc⟩ := SRow.opened lcs_len hv
    rcases hc with hc | ⟨g, rfl, hg1, hg2, hc⟩
    · rw [hc] at hn1; simp at hn1
    have HC : Hid (∀ (k : Nat) (p : Int × Int × Int), (lvlsL S L)[k]? = some p → w1.cell? ⟨g, k * 3, none⟩ = some (.int .i64 p.1) ∧ w1.cell? ⟨g, k * 3 + 1, none⟩ = some (.int .i64 p.2.1) ∧ w1.cell? ⟨g, k * 3 + 2, none⟩ = some (.int .i64 p.2.2)) :=
      Lib.hid (fun k p hk => ⟨hc k 0 _ _ hk rfl, hc k 1 _ _ hk rfl, hc k 2 _ _ hk rfl⟩)
    clear hc hv hmx ht
    try simp at hg1
    have BW1 : Hid (Below w.heap.size w w1) := Lib.hid (by (repeat' (first | exact Below.refl _ _ | refine bl_out ?_ (by assumption) | exact (Hid.out (by assumption)) | refine bl_alloc ?_ _ | refine bl_drewN ?_ _ | refine bl_drew ?_ | refine bl_set ?_ ?_ _ | omega | (simp; done) | (simp; omega))))
    generalize lvlsL S L = xs at *
    obtain ⟨NL, hNL⟩ : ∃ NL, xs.length = NL := ⟨_, rfl⟩
    rw [hNL] at hn1 hn2
    rw [hNL]
    have HNL := Lib.hid hNL
    clear hNL
    go_wp2_with fail
    go_loopw [8] (fun i wr => ∃ (k : Nat) (N2 D2 : Int), k ≤ NL ∧ i = .int .i64 k ∧ sumL (fun s l j => strS s l j S2 L2) (xs.drop k) N2 D2 = (N, D, o) ∧ Blk wr (w.heap.size + 3) #[.int .i64 N2, .int .i64 D2] ∧ w1.grownBy wr (some (w.heap.size + 3))) (fun i _ => NL - (intOf i).toNat)
    case atStart => exact ⟨0, 0, 1, Nat.zero_le _, rfl, by rw [List.drop_zero]; exact HT.out, Kw1_sumH.out, on_refl _ _⟩
    case round =>
      obtain ⟨k, N2, D2, hk, rfl, hst, KS, hG⟩ := hrel
      have HST := Lib.hid hst
      have HG := Lib.hid hG
      have hsz := hG.size
      have HNX : Hid (Below w.heap.size w wr) := Lib.hid (bl_only BW1.out HG (by omega))
      have Kx := blk_only hG (by omega) Kw1_bH.out
      have Kr := blk_only hG (by omega) Kw1_rH.out
      obtain ⟨kx0, kx1, kx2, kx3⟩ := blk2 Kx
      obtain ⟨kr0, kr1, kr2, kr3⟩ := blk2 Kr
      obtain ⟨ks0, ks1, ks2, ks3⟩ := blk2 KS
      have KXH := Lib.hid Kx
      have KRH := Lib.hid Kr
      have KSH := Lib.hid KS
      have kxl := Kx.lt
      have krl := Kr.lt
      have ksl := KS.lt
      have gl : g < wr.heap.size := Nat.lt_of_lt_of_le hg2 hsz
      clear hst KS Kx Kr
      by_cases hlt : k < NL
      · skip
        obtain ⟨⟨a, b, c⟩, hp⟩ : ∃ p, xs[k]? = some p := ⟨_, List.getElem?_eq_getElem (by rw [HNL.out]; exact hlt)⟩
        obtain ⟨e0, e1, e2⟩ := HC.out k _ hp
        have hne : some (w.heap.size + 3) ≠ some g := by intro e; injection e with e; omega
        have f0 := grown_cell hG e0 hg2 hne
        have f1 := grown_cell hG e1 hg2 hne
        have f2 := grown_cell hG e2 hg2 hne
        have HP := Lib.hid hp
        obtain ⟨N1, D1, o1, hF⟩ := pair3 (strS a b c S2 L2)
        have HF := Lib.hid hF
        clear hp hF e0 e1 e2 hG hne
        go_upto_region 6 with fail
        have xl0 : g < wr.heap.size := by omega
        have xc0 : wr.cell? ⟨g, k * 3, none⟩ = some (.int .i64 a) := by exact f0
        have xl1 : g < wr.heap.size := by omega
        have xc1 : wr.cell? ⟨g, k * 3 + 1, none⟩ = some (.int .i64 b) := by exact f1
        have xl2 : g < wr.heap.size := by omega
        have xc2 : wr.cell? ⟨g, k * 3 + 2, none⟩ = some (.int .i64 c) := by exact f2
        have Kz21_b : Blk wr (w.heap.size + 1) #[.int .i64 S2, .int .i64 L2] := KXH.out
        have Kz21_r : Blk wr (w.heap.size + 2) #[.int .i64 0, .int .i64 0] := KRH.out
        have Kz21_sum : Blk wr (w.heap.size + 3) #[.int .i64 N2, .int .i64 D2] := KSH.out
        have Bz21 : Below w.heap.size w wr := by (repeat' (first | exact Below.refl _ _ | refine bl_out ?_ (by assumption) | exact (Hid.out (by assumption)) | refine bl_alloc ?_ _ | refine bl_drewN ?_ _ | refine bl_drew ?_ | refine bl_set ?_ ?_ _ | omega | (simp; done) | (simp; omega)))
        generalize wr = z21 at *
        obtain ⟨z21_c0_b, z21_c1_b, z21_f0_b, z21_f1_b⟩ := blk2 Kz21_b
        have Kz21_bH := Lib.hid Kz21_b
        have z21_l_b := Kz21_b.lt
        obtain ⟨z21_c0_r, z21_c1_r, z21_f0_r, z21_f1_r⟩ := blk2 Kz21_r
        have Kz21_rH := Lib.hid Kz21_r
        have z21_l_r := Kz21_r.lt
        obtain ⟨z21_c0_sum, z21_c1_sum, z21_f0_sum, z21_f1_sum⟩ := blk2 Kz21_sum
        have Kz21_sumH := Lib.hid Kz21_sum
        have z21_l_sum := Kz21_sum.lt
        have z21B := Lib.hid Bz21
        clear Bz21
        clear Kz21_b Kz21_r Kz21_sum
        go_cut [9, 10] (CutBlk z21 #[.int .i64 N1, .int .i64 D1] o1)
        case first =>
          go_region_held3 (fun w' => Below z21.heap.size z21 w' ∧ w'.cell? ⟨w.heap.size + 1, 0, none⟩ = some (.int .i64 S2) ∧ w'.cell? ⟨w.heap.size + 1, 1, none⟩ = some (.int .i64 L2) ∧ w'.cell? ⟨g, k * 3, none⟩ = some (.int .i64 a) ∧ w'.cell? ⟨g, k * 3 + 1, none⟩ = some (.int .i64 b) ∧ w'.cell? ⟨g, k * 3 + 2, none⟩ = some (.int .i64 c)) ((refine and_keep ?_ (fun hB => ⟨held_cell hB z21_c0_b z21_l_b, held_cell hB z21_c1_b z21_l_b, held_cell hB xc0 xl0, held_cell hB xc1 xl1, held_cell hB xc2 xl2⟩); (repeat' (first | with_reducible exact Below.refl _ _ | with_reducible refine bl_alloc ?_ _ | with_reducible refine bl_set ?_ ?_ _ | exact (Below.refl _ _).drew | with_reducible refine bl_drew ?_ | with_reducible refine btr ?_ hbA | omega | (simp; done) | (simp; omega))))) (first | (go_at_call 13; refine (m_sSum _ _ _ _ _ _ _ _ _ HF).mono ?_; rintro e wA ⟨rfl, hbA⟩; obtain ⟨hcA, hfA⟩ := bcell hbA; have hzA : z21.heap.size ≤ wA.heap.size := (by first | exact hbA.size | exact Nat.le_trans hzA hbA.size | (have h0 := hbA.size; (try simp at h0); omega)); (try (have hyA : z21.heap.size < wA.heap.size := by (have h0 := hbA.size; (try simp at h0); omega)))))
          all_goals
            go_wp2_with fail
            go_meet
            exact ⟨_, rfl, rfl, by (first | omega | (simp; omega)), by (repeat' (first | exact blk_new (by simp) | with_reducible refine blk_store2 (x := .int .i64 0) (y := .int .i64 0) ?_ | with_reducible refine blk_store3 (x := .int .i64 0) (y := .int .i64 0) (z := .int .i64 0) ?_ | with_reducible refine blk_drew ?_ | with_reducible refine blk_later hbA ?_)), by (repeat' (first | with_reducible exact Below.refl _ _ | with_reducible refine bl_alloc ?_ _ | with_reducible refine bl_set ?_ ?_ _ | exact (Below.refl _ _).drew | with_reducible refine bl_drew ?_ | with_reducible refine btr ?_ hbA | omega | (simp; done) | (simp; omega)))⟩
        case rest =>
          obtain ⟨g22, rfl, rfl, g22z, Kg22, hb22⟩ := hcut
          obtain ⟨w22, rfl⟩ : ∃ x, x = wc := ⟨_, rfl⟩
          have Kw22_r : Blk w22 (w.heap.size + 2) #[.int .i64 0, .int .i64 0] := blk_later hb22 Kz21_rH.out
          have Kw22_sum : Blk w22 (w.heap.size + 3) #[.int .i64 N2, .int .i64 D2] := blk_later hb22 Kz21_sumH.out
          obtain ⟨w22_c0_r, w22_c1_r, w22_f0_r, w22_f1_r⟩ := blk2 Kw22_r
          have Kw22_rH := Lib.hid Kw22_r
          have w22_l_r := Kw22_r.lt
          have w22_m_r : w.heap.size + 2 < w22.heap.size + 1 := by omega
          obtain ⟨w22_c0_sum, w22_c1_sum, w22_f0_sum, w22_f1_sum⟩ := blk2 Kw22_sum
          have Kw22_sumH := Lib.hid Kw22_sum
          have w22_l_sum := Kw22_sum.lt
          have w22_m_sum : w.heap.size + 3 < w22.heap.size + 1 := by omega
          have w22z := hb22.size
          try simp at w22z
          have w22B := Lib.hid hb22
          clear Kw22_r Kw22_sum
          clear hb22
          obtain ⟨w22_c0_y, w22_c1_y, w22_f0_y, w22_f1_y⟩ := blk2 Kg22
          have Kg22H := Lib.hid Kg22
          have w22_l_y := Kg22.lt
          clear Kg22
          cases ho1 : o1
          · subst ho1
            obtain ⟨rfl, rfl, rfl⟩ := t3_eq (sumL_no HP.out HF.out HST.out).symm
            go_wp2_with fail
            refine bodyPost_ret (v := .tuple #[.agg #[.int .i64 0, .int .i64 0], .bool false]) ?_ rfl ?_
            · have KR : Blk _ (w.heap.size + 2) #[.int .i64 0, .int .i64 0] := (blk_set (blk_set Kw22_rH.out 0 (.int .i64 0)) 1 (.int .i64 0))
              obtain ⟨r0, r1, _, _⟩ := blk2 KR
              simp [results, Try.results18, go_sem, r0, r1]
            · exact ⟨rfl, by (repeat' (first | exact Below.refl _ _ | refine bl_out ?_ (by assumption) | refine bl_only ?_ (by assumption) ?_ | exact (Hid.out (by assumption)) | refine bl_alloc ?_ _ | refine bl_drewN ?_ _ | refine bl_drew ?_ | refine bl_set ?_ ?_ _ | omega | (simp; done) | (simp; omega)))⟩
          · subst ho1
            obtain ⟨N3, D3, o3, hA⟩ := pair3 (ratAdd N2 D2 N1 D1)
            have HA := Lib.hid hA
            clear hA
            go_wp2_with fail
            refine (m_sAdd _ _ _ _ _ _ _ _ HA).mono ?_
            rintro e w23 ⟨rfl, hb23⟩
            have Kw23_r : Blk w23 (w.heap.size + 2) #[.int .i64 0, .int .i64 0] := blk_later hb23 Kw22_rH.out
            have Kw23_sum : Blk w23 (w.heap.size + 3) #[.int .i64 N2, .int .i64 D2] := blk_later hb23 Kw22_sumH.out
            have Kw23_y : Blk w23 (g22) #[.int .i64 N1, .int .i64 D1] := blk_later hb23 Kg22H.out
            obtain ⟨w23_c0_r, w23_c1_r, w23_f0_r, w23_f1_r⟩ := blk2 Kw23_r
            have Kw23_rH := Lib.hid Kw23_r
            have w23_l_r := Kw23_r.lt
            have w23_m_r : w.heap.size + 2 < w23.heap.size + 1 := by omega
            obtain ⟨w23_c0_sum, w23_c1_sum, w23_f0_sum, w23_f1_sum⟩ := blk2 Kw23_sum
            have Kw23_sumH := Lib.hid Kw23_sum
            have w23_l_sum := Kw23_sum.lt
            have w23_m_sum : w.heap.size + 3 < w23.heap.size + 1 := by omega
            obtain ⟨w23_c0_y, w23_c1_y, w23_f0_y, w23_f1_y⟩ := blk2 Kw23_y
            have Kw23_yH := Lib.hid Kw23_y
            have w23_l_y := Kw23_y.lt
            have w23_m_y : g22 < w23.heap.size + 1 := by omega
            have w23z := hb23.size
            try simp at w23z
            have w23B := Lib.hid hb23
            clear Kw23_r Kw23_sum Kw23_y
            clear hb23
            cases ho3 : o3
            · subst ho3
              obtain ⟨rfl, rfl, rfl⟩ := t3_eq (sumL_big HP.out HF.out HA.out HST.out).symm
              go_wp2_with fail
              refine bodyPost_ret (v := .tuple #[.agg #[.int .i64 0, .int .i64 0], .bool false]) ?_ rfl ?_
              · have KR : Blk _ (w.heap.size + 2) #[.int .i64 0, .int .i64 0] := (blk_set (blk_set (blk_other (blk_other Kw23_rH.out (p := ⟨w.heap.size + 3, 0, none⟩) (v := .int .i64 N3) (by (first | omega | (simp; done) | (simp; omega)))) (p := ⟨w.heap.size + 3, 1, none⟩) (v := .int .i64 D3) (by (first | omega | (simp; done) | (simp; omega)))) 0 (.int .i64 0)) 1 (.int .i64 0))
                obtain ⟨r0, r1, _, _⟩ := blk2 KR
                simp [results, Try.results18, go_sem, r0, r1]
              · exact ⟨rfl, by (repeat' (first | exact Below.refl _ _ | refine bl_out ?_ (by assumption) | refine bl_only ?_ (by assumption) ?_ | exact (Hid.out (by assumption)) | refine bl_alloc ?_ _ | refine bl_drewN ?_ _ | refine bl_drew ?_ | refine bl_set ?_ ?_ _ | omega | (simp; done) | (simp; omega)))⟩
            · subst ho3
              go_wp2_with fail
              go_roundw
              case rel => exact ⟨k + 1, N3, D3, by omega, by go_num, sumL_step HP.out HF.out HA.out HST.out, (blk_set (blk_set Kw23_sumH.out 0 (.int .i64 N3)) 1 (.int .i64 D3)), on_setR (on_setR (on_below (on_below HG.out w22B) w23B) rfl _) rfl _⟩
              case measure => simp [intOf]; omega
      · obtain rfl : k = NL := by omega
        have hst2 := HST.out
        rw [← HNL.out] at hst2
        obtain ⟨rfl, rfl, rfl⟩ := t3_eq (sumL_end hst2).symm
        have hz : ((k : Int) == 0) = false := by simp; omega
        clear hst2 hG
        go_wp2_with fail
        refine bodyPost_ret (v := .tuple #[.agg #[.int .i64 N, .int .i64 D], .bool true]) ?_ rfl ?_
        · have KR : Blk _ (w.heap.size + 2) #[.int .i64 N, .int .i64 D] := (blk_set (blk_set KRH.out 0 (.int .i64 N)) 1 (.int .i64 D))
          obtain ⟨r0, r1, _, _⟩ := blk2 KR
          simp [results, Try.results18, go_sem, r0, r1]
        · exact ⟨rfl, by (repeat' (first | exact Below.refl _ _ | refine bl_out ?_ (by assumption) | refine bl_only ?_ (by assumption) ?_ | exact (Hid.out (by assumption)) | refine bl_alloc ?_ _ | refine bl_drewN ?_ _ | refine bl_drew ?_ | refine bl_set ?_ ?_ _ | omega | (simp; done) | (simp; omega)))⟩

end Go.Proofs.Ytneihommpncegaa
