/- The walk of the law FnHundShift. -/
import Derived.Test.YtpdhbilghmejiaaN
namespace Go.Proofs.Ytpdhbilghmejiaa
open Go.RowKit
set_option linter.unusedVariables false

theorem lvls_get {S L : Int} (h : tmB S L = true) {k : Nat} (hk : k < (lvlsL S L).length) : ∃ J : Int, (lvlsL S L)[k]? = some (S, L, J) ∧ absI (2 * L - S) ≤ J ∧ J ≤ 2 * L + S ∧ lvB S L J = true := by
  obtain ⟨⟨h1, h2⟩, h3, h4⟩ := tmB_iff.1 h
  have e : lvlsL S L = (stepL (absI (2 * L - S)) ((min (2 * L) S).toNat + 1)).map (fun j => (S, L, j)) := by
    have : coupledOk (2 * L) S = true := by simp [coupledOk, inB]; omega
    rw [lvlsL, if_pos h, coupledL, if_pos this]
    congr 2
    omega
  rw [e, List.length_map, stepL_length] at hk
  refine ⟨absI (2 * L - S) + 2 * (k : Int), ?_, by omega, ?_, ?_⟩
  · rw [e, List.getElem?_map, stepL_get _ _ _ hk]
    rfl
  · unfold absI; split <;> omega
  · rw [lvB_iff]
    unfold absI
    split <;> omega

set_option maxRecDepth 100000 in
set_option maxHeartbeats 2000000 in
theorem l_FnHundShift (a : Option Addr) (len cap : Nat) (w : World) (h : Code w a len cap) (hl : len ≤ 9223372036854775807) (hc : cap ≤ 9223372036854775807) :
    Calls Try.prog 7 #[.slice a len cap] w (RTrueU w) := by
  have H := Lib.hid h
  clear h
  by_cases hbig : 1048576 < len
  · go_enter Try.func7, Try.ntmps7
    go_wp2_with fail
    go_ret
    exact ⟨rfl, Below.refl _ _⟩
  go_enter Try.func7, Try.ntmps7
  go_wp2_with fail
  refine (s_DrawHundLevel a len cap w H.out hl hc).mono ?_
  rintro e w1 ⟨l, n, rfl, hl1, hn1, hb1⟩
  have w1z := hb1.size
  try simp at w1z
  have w1B := Lib.hid hb1
  clear hb1
  obtain ⟨S, L, J, o, hX⟩ := pair4u (hlvR l n)
  have HX := Lib.hid hX
  clear hX
  go_wp2_with fail
  refine (i_HundLevel _ _ _ _ _ _ _ HX).mono ?_
  rintro e w2 ⟨rfl, hb2⟩
  have w2z := hb2.size
  try simp at w2z
  have w2B := Lib.hid hb2
  clear hb2
  go_wp2_with fail
  refine (s_HundLevel _ _ _ _ _ _ _ HX).mono ?_
  rintro e w3 ⟨rfl, hb3⟩
  have Kw3_out : Blk w3 (w2.heap.size) #[.int .i64 S, .int .i64 L, .int .i64 J] := blk_later hb3 (blk_new (by simp))
  obtain ⟨w3_c0_out, w3_c1_out, w3_c2_out, w3_f0_out, w3_f1_out, w3_f2_out⟩ := blk3 Kw3_out
  have Kw3_outH := Lib.hid Kw3_out
  have w3_l_out := Kw3_out.lt
  have w3_m_out : w2.heap.size < w3.heap.size + 1 := by omega
  have w3z := hb3.size
  try simp at w3z
  have w3B := Lib.hid hb3
  clear Kw3_out
  clear hb3
  cases o
  · go_wp2_with fail
    go_ret
    exact ⟨rfl, by (repeat' (first | exact Below.refl _ _ | refine bl_out ?_ (by assumption) | exact (Hid.out (by assumption)) | refine bl_alloc ?_ _ | refine bl_drewN ?_ _ | refine bl_drew ?_ | refine bl_set ?_ ?_ _ | omega | (simp; done) | (simp; omega)))⟩
  obtain ⟨hv, he⟩ := hlv_valid HX.out
  obtain ⟨hT, hJ, _, ht⟩ := hlvR_yes he HX.out
  have HT := Lib.hid hT
  have HJ := Lib.hid hJ
  have hb8 := tmB_iff.1 ht
  clear hT hJ
  go_wp2_with fail
  refine (i_LevelsOf _ _ _).mono ?_
  rintro e w4 ⟨v, rfl, hvv, hb4⟩
  have Kw4_out : Blk w4 (w2.heap.size) #[.int .i64 S, .int .i64 L, .int .i64 J] := blk_later hb4 (blk_alloc Kw3_outH.out (.cells #[.int .i64 S, .int .i64 L, .int .i64 J] 33))
  have Kw4_want : Blk w4 (w3.heap.size) #[.int .i64 S, .int .i64 L, .int .i64 J] := blk_later hb4 (blk_new (by simp))
  obtain ⟨w4_c0_out, w4_c1_out, w4_c2_out, w4_f0_out, w4_f1_out, w4_f2_out⟩ := blk3 Kw4_out
  have Kw4_outH := Lib.hid Kw4_out
  have w4_l_out := Kw4_out.lt
  have w4_m_out : w2.heap.size < w4.heap.size + 1 := by omega
  obtain ⟨w4_c0_want, w4_c1_want, w4_c2_want, w4_f0_want, w4_f1_want, w4_f2_want⟩ := blk3 Kw4_want
  have Kw4_wantH := Lib.hid Kw4_want
  have w4_l_want := Kw4_want.lt
  have w4_m_want : w3.heap.size < w4.heap.size + 1 := by omega
  have w4z := hb4.size
  try simp at w4z
  have w4B := Lib.hid hb4
  clear Kw4_out Kw4_want
  clear hb4
  obtain ⟨a, cap, rfl, hmx, hc⟩ := SRow.opened lcs_len hvv
  have LG : Hid (∀ k, k < (lvlsL S L).length → ∃ J : Int, (lvlsL S L)[k]? = some (S, L, J) ∧ absI (2 * L - S) ≤ J ∧ J ≤ 2 * L + S ∧ lvB S L J = true) := Lib.hid (fun k hk => lvls_get ht hk)
  generalize lvlsL S L = xs at *
  have HC := Lib.hid hc
  clear hc hvv
  unfold maxLen at hmx
  have J0 : Hid (0 ≤ absI (2 * L - S)) := Lib.hid (by unfold absI; split <;> omega)
  have J1 : Hid (n ≤ 2 * l + 1 → J = absI (2 * L - S)) := Lib.hid (fun h => by rw [HJ.out, if_pos h])
  have J2 : Hid (¬ n ≤ 2 * l + 1 → J = 2 * L + S) := Lib.hid (fun h => by rw [HJ.out, if_neg h])
  have hvb := lvB_iff.1 hv
  clear HJ HX HT
  go_wp2_with fail
  go_loopw [10] (fun c wr => ∃ k : Nat, k ≤ xs.length ∧ c = .int .i64 k ∧ Below w4.heap.size w4 wr) (fun c _ => xs.length - (intOf c).toNat)
  case atStart => exact ⟨0, Nat.zero_le _, rfl, Below.refl _ _⟩
  case round =>
    obtain ⟨k, hk, rfl, hB⟩ := hrel
    have HBr := Lib.hid hB
    have hsr := hB.size
    by_cases hlt : k < xs.length
    · rcases HC.out with h | ⟨g, rfl, hg1, hg2, hc⟩
      · subst h; simp at hlt
      obtain ⟨Jk, hx, h1, h2, h3⟩ := LG.out k hlt
      have a0 := hc k 0 _ _ hx rfl
      have a1 := hc k 1 _ _ hx rfl
      have a2 := hc k 2 _ _ hx rfl
      simp only [Nat.add_zero] at a0 a1 a2
      have b0 : wr.cell? ⟨g, k * 3, none⟩ = some (.int .i64 S) := by rw [hB.cell (p := ⟨g, k * 3, none⟩) hg2]; exact a0
      have b1 : wr.cell? ⟨g, k * 3 + 1, none⟩ = some (.int .i64 L) := by rw [hB.cell (p := ⟨g, k * 3 + 1, none⟩) hg2]; exact a1
      have b2 : wr.cell? ⟨g, k * 3 + 2, none⟩ = some (.int .i64 Jk) := by rw [hB.cell (p := ⟨g, k * 3 + 2, none⟩) hg2]; exact a2
      clear a0 a1 a2 hc hx
      have M1 : Hid (n < 2 * l + 1 → shU S L J ≤ shU S L Jk) := Lib.hid (fun h => by have := J0.out; have := sqU_mono (a := J) (b := Jk) (by omega) (by have := J1.out (by omega); omega); unfold shU; omega)
      have M2 : Hid (2 * l + 1 < n → shU S L Jk ≤ shU S L J) := Lib.hid (fun h => by have := J0.out; have := sqU_mono (a := Jk) (b := J) (by omega) (by have := J2.out (by omega); omega); unfold shU; omega)
      have KO : Blk wr (w2.heap.size) #[.int .i64 S, .int .i64 L, .int .i64 J] := blk_later hB Kw4_outH.out
      have HKO := Lib.hid KO
      clear hB KO
      go_wp2_with fail
      refine (i_LevelShift _ _ _ _ h3).mono ?_
      rintro e w7 ⟨rfl, hb7⟩
      have K7 : Blk w7 (w2.heap.size) #[.int .i64 S, .int .i64 L, .int .i64 J] := blk_later hb7 HKO.out
      obtain ⟨q0, q1, q2, _, _, _⟩ := blk3 K7
      have H7 := Lib.hid (btr HBr.out hb7)
      clear K7 hb7
      rcases Int.lt_trichotomy n (2 * l + 1) with hn | hn | hn
      · have m := M1.out hn
        go_wp2_with fail
        refine (i_LevelShift _ _ _ _ hv).mono ?_
        rintro e w8 ⟨rfl, hb8⟩
        have H8 := Lib.hid (btr H7.out hb8)
        clear hb8
        go_wp2_with fail
        go_roundw
        case rel => exact ⟨k + 1, by omega, by go_num, H8.out⟩
        case measure => simp [intOf]; omega
      · have n1 : n ≤ 2 * l + 1 := by omega
        have n2 : 2 * l + 1 ≤ n := by omega
        clear hn
        go_wp2_with fail
        go_roundw
        case rel => exact ⟨k + 1, by omega, by go_num, H7.out⟩
        case measure => simp [intOf]; omega
      · have m := M2.out hn
        go_wp2_with fail
        refine (i_LevelShift _ _ _ _ hv).mono ?_
        rintro e w8 ⟨rfl, hb8⟩
        have H8 := Lib.hid (btr H7.out hb8)
        clear hb8
        go_wp2_with fail
        go_roundw
        case rel => exact ⟨k + 1, by omega, by go_num, H8.out⟩
        case measure => simp [intOf]; omega
    · go_wp2_with fail
      go_ret
      refine ⟨rfl, btr ?_ hB⟩
      (repeat' (first | exact Below.refl _ _ | refine bl_out ?_ (by assumption) | exact (Hid.out (by assumption)) | refine bl_alloc ?_ _ | refine bl_drewN ?_ _ | refine bl_drew ?_ | refine bl_set ?_ ?_ _ | omega | (simp; done) | (simp; omega)))

end Go.Proofs.Ytpdhbilghmejiaa
