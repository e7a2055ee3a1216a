/- The walks of the laws on Hund's level of configurations. -/
import Derived.Test.YtpdhbilghmejiaaS9
import Derived.Test.YtpdhbilghmejiaaPhc
import Derived.Deep.DeepCutAuto
namespace Go.Proofs.Ytpdhbilghmejiaa
open Go.RowKit
set_option linter.unusedVariables false

theorem bcell {W w1 : World} (hb : Below W.heap.size W w1) : (∀ b o, b < W.heap.size → w1.cell? ⟨b, o, none⟩ = W.cell? ⟨b, o, none⟩) ∧ (∀ b o, b < W.heap.size → w1.frozen? ⟨b, o, none⟩ = W.frozen? ⟨b, o, none⟩) :=
  ⟨fun b o h => hb.cell (p := ⟨b, o, none⟩) h, fun b o h => hb.frozen (p := ⟨b, o, none⟩) h⟩

set_option maxRecDepth 100000 in
set_option maxHeartbeats 2000000 in
theorem i_ConfigElectrons (v : Value) (xs : List Sh) (b : Nat) (w : World) (hv : Shells w b v xs) (hn : xs.length ≤ 1000) (hcf : cfgB xs = true) :
    Calls Try.prog 30 #[v] w fun e w' => e = .returned (.int .i64 (sumC xs)) ∧ Below w.heap.size w w' := by
  obtain ⟨a, cap, rfl, hc⟩ := Shells.opened hv
  have HV := Lib.hid hv
  have HC := Lib.hid hc
  have HCF := Lib.hid hcf
  clear hc hv
  go_enter Try.func30, Try.ntmps30
  go_wp2_with fail
  refine (i_ConfigValid _ xs b w HV.out (by omega)).mono ?_
  rintro e w1 ⟨rfl, hb⟩
  rw [hcf]
  have HB1 := Lib.hid hb
  have hs1 := hb.size
  clear hb hcf
  go_wp2_with fail
  go_loopw [3, 11] (fun t c wr => ∃ k : Nat, k ≤ xs.length ∧ c = .int .i64 k ∧ t = .int .i64 (sumC (xs.take k)) ∧ Below w.heap.size w wr) (fun _ c _ => xs.length - (intOf c).toNat)
  case atStart => exact ⟨0, Nat.zero_le _, rfl, rfl, HB1.out⟩
  case round =>
    obtain ⟨k, hk, rfl, rfl, hB⟩ := hrel
    have HN := Lib.hid hB
    have hs := hB.size
    by_cases hlt : k < xs.length
    · rcases HC.out with h | ⟨g, rfl, hg1, hg2, hg⟩
      · subst h; simp at hlt
      obtain ⟨a0, a1, a2⟩ := hg k hlt
      have c0 : wr.cell? ⟨g, k * 3, none⟩ = some (.int .i64 (shAt xs k).1) := by rw [hB.cell (p := ⟨g, k * 3, none⟩) hg2]; exact a0
      have c1 : wr.cell? ⟨g, k * 3 + 1, none⟩ = some (.int .i64 (shAt xs k).2.1) := by rw [hB.cell (p := ⟨g, k * 3 + 1, none⟩) hg2]; exact a1
      have c2 : wr.cell? ⟨g, k * 3 + 2, none⟩ = some (.int .i64 (shAt xs k).2.2) := by rw [hB.cell (p := ⟨g, k * 3 + 2, none⟩) hg2]; exact a2
      clear a0 a1 a2 hg hB
      have hok := (cfg_at HCF.out).1 k hlt
      have E := fun p (hp : shAt xs k = p) => sumC_take hlt hp
      generalize hp : shAt xs k = p at *
      obtain ⟨N, L, C⟩ := p
      obtain ⟨_, ⟨L0, L1⟩, _, C0, C1⟩ := okAt_sh hp hok
      have HE := Lib.hid (E _ rfl)
      clear hok hp E
      obtain ⟨b0, b1⟩ := sumC_take_bd HCF.out k
      go_wp2_with fail
      go_roundw
      case rel => exact ⟨k + 1, by omega, by go_num, by rw [HE.out], bl_alloc HN.out _⟩
      case measure => simp [intOf]; omega
    · obtain rfl : k = xs.length := by omega
      go_wp2_with fail
      go_ret
      exact ⟨ret_int (by rw [List.take_length]), HN.out⟩

set_option maxRecDepth 100000 in
set_option maxHeartbeats 2000000 in
theorem l_FnHundNumber (s : Option Addr) (len cap : Nat) (w : World) (h : Code w s len cap) (hl : len ≤ 9223372036854775807) (hc : cap ≤ 9223372036854775807) :
    Calls Try.prog 10 #[.slice s len cap] w (RTrueS w) := by
  have H := Lib.hid h
  clear h
  by_cases hbig : 1048576 < len
  · go_enter Try.func10, Try.ntmps10
    go_wp2_with fail
    go_ret
    exact ⟨rfl, Below.refl _ _⟩
  go_enter Try.func10, Try.ntmps10
  go_wp2_with fail
  refine (s_DrawHundConfig s len cap w H.out hl hc).mono ?_
  rintro e w1 ⟨v, rfl, ⟨xs, hO, hx⟩, hb1⟩
  have w1z := hb1.size
  try simp at w1z
  have w1B := Lib.hid hb1
  clear hb1
  have HV1 := Lib.hid hO
  clear hO
  obtain ⟨S, L, J, o, hX⟩ := pair4s (hcfR xs)
  have HX := Lib.hid hX
  clear hX
  go_wp2_with fail
  refine (i_HundConfig v xs _ S L J o _ HV1.out (by omega) HX).mono ?_
  rintro e w2 ⟨rfl, hb2⟩
  have w2z := hb2.size
  try simp at w2z
  have w2B := Lib.hid hb2
  clear hb2
  have HV2 := Lib.hid (SRow.kept HV1.out w2B.out)
  go_wp2_with fail
  refine (s_HundConfig v xs _ S L J o _ (SRow.alloc HV2.out _) (by omega) HX).mono ?_
  rintro e w3 ⟨rfl, hb3⟩
  have Kw3_out : Blk w3 (w2.heap.size) #[.int .i64 S, .int .i64 L, .int .i64 J] := blk_later hb3 (blk_new (by simp))
  obtain ⟨w3_c0_out, w3_c1_out, w3_c2_out, w3_f0_out, w3_f1_out, w3_f2_out⟩ := blk3 Kw3_out
  have Kw3_outH := Lib.hid Kw3_out
  have w3_l_out := Kw3_out.lt
  have w3_m_out : w2.heap.size < w3.heap.size + 1 := by omega
  have w3z := hb3.size
  try simp at w3z
  have w3B := Lib.hid hb3
  clear Kw3_out
  clear hb3
  have HV3 := Lib.hid (SRow.kept (SRow.alloc HV2.out _) w3B.out)
  cases o
  · go_wp2_with fail
    go_ret
    exact ⟨rfl, by (repeat' (first | exact Below.refl _ _ | refine bl_out ?_ (by assumption) | exact (Hid.out (by assumption)) | refine bl_alloc ?_ _ | refine bl_drewN ?_ _ | refine bl_drew ?_ | refine bl_set ?_ ?_ _ | omega | (simp; done) | (simp; omega)))⟩
  have HCF := Lib.hid (hcf_cfg HX.out).1
  have HNUM := Lib.hid (hcf_num HX.out)
  clear HV1 HV2
  go_wp2_with fail
  refine (i_ConfigElectrons v xs _ _ (SRow.alloc HV3.out _) (by omega) HCF.out).mono ?_
  rintro e w4 ⟨rfl, hb4⟩
  have Kw4_out : Blk w4 (w2.heap.size) #[.int .i64 S, .int .i64 L, .int .i64 J] := blk_later hb4 (blk_alloc Kw3_outH.out (.cells #[.int .i64 S, .int .i64 L, .int .i64 J] 33))
  obtain ⟨w4_c0_out, w4_c1_out, w4_c2_out, w4_f0_out, w4_f1_out, w4_f2_out⟩ := blk3 Kw4_out
  have Kw4_outH := Lib.hid Kw4_out
  have w4_l_out := Kw4_out.lt
  have w4_m_out : w2.heap.size < w4.heap.size + 1 := by omega
  have w4z := hb4.size
  try simp at w4z
  have w4B := Lib.hid hb4
  clear Kw4_out
  clear hb4
  obtain ⟨n1, n2, n3⟩ := HNUM.out
  obtain ⟨⟨S0, S1⟩, J0, J1⟩ := lv_bd n3
  obtain ⟨b0, b1⟩ := sumC_bd (fun p hp => cfg_mem HCF.out hp)
  generalize sumC xs = n at *
  have b2 : n ≤ 1000 := by omega
  have m1 : ((J + n) % 2 == 0) = true := by simp; exact n2
  have m2 : ((S + n) % 2 == 0) = true := by simp; exact n1
  have w1' : IntKind.i64.wrap (J + n) = J + n := IntWalk.i64_in _ (by omega)
  have w2' : IntKind.i64.wrap (S + n) = S + n := IntWalk.i64_in _ (by omega)
  have p1 : 0 ≤ J + n := by omega
  have p2 : 0 ≤ S + n := by omega
  have t1 : (J + n).tmod 2 = (J + n) % 2 := Int.tmod_eq_emod_of_nonneg p1
  have t2 : (S + n).tmod 2 = (S + n) % 2 := Int.tmod_eq_emod_of_nonneg p2
  clear n1 n2 n3 b1
  go_wp2_with fail
  go_ret
  exact ⟨rfl, by (repeat' (first | exact Below.refl _ _ | refine bl_out ?_ (by assumption) | exact (Hid.out (by assumption)) | refine bl_alloc ?_ _ | refine bl_drewN ?_ _ | refine bl_drew ?_ | refine bl_set ?_ ?_ _ | omega | (simp; done) | (simp; omega)))⟩

set_option maxRecDepth 100000 in
set_option maxHeartbeats 4000000 in
theorem l_FnHundConfig (s : Option Addr) (len cap : Nat) (w : World) (h : Code w s len cap) (hl : len ≤ 9223372036854775807) (hc : cap ≤ 9223372036854775807) :
    Calls Try.prog 9 #[.slice s len cap] w (RTrueS w) := by
  have H := Lib.hid h
  clear h
  by_cases hbig : 1048576 < len
  · go_enter Try.func9, Try.ntmps9
    go_wp2_with fail
    go_ret
    exact ⟨rfl, Below.refl _ _⟩
  go_enter Try.func9, Try.ntmps9
  go_wp2_with fail
  refine (s_DrawHundConfig s len cap w H.out hl hc).mono ?_
  rintro e w1 ⟨v, rfl, ⟨xs, hO, hx⟩, hb1⟩
  have w1z := hb1.size
  try simp at w1z
  have w1B := Lib.hid hb1
  clear hb1
  have HV1 := Lib.hid hO
  clear hO
  obtain ⟨S, L, J, o, hX⟩ := pair4s (hcfR xs)
  have HX := Lib.hid hX
  clear hX
  go_wp2_with fail
  refine (i_HundConfig v xs _ S L J o _ HV1.out (by omega) HX).mono ?_
  rintro e w2 ⟨rfl, hb2⟩
  have w2z := hb2.size
  try simp at w2z
  have w2B := Lib.hid hb2
  clear hb2
  have HV2 := Lib.hid (SRow.kept HV1.out w2B.out)
  go_wp2_with fail
  refine (s_HundConfig v xs _ S L J o _ (SRow.alloc HV2.out _) (by omega) HX).mono ?_
  rintro e w3 ⟨rfl, hb3⟩
  have Kw3_out : Blk w3 (w2.heap.size) #[.int .i64 S, .int .i64 L, .int .i64 J] := blk_later hb3 (blk_new (by simp))
  obtain ⟨w3_c0_out, w3_c1_out, w3_c2_out, w3_f0_out, w3_f1_out, w3_f2_out⟩ := blk3 Kw3_out
  have Kw3_outH := Lib.hid Kw3_out
  have w3_l_out := Kw3_out.lt
  have w3_m_out : w2.heap.size < w3.heap.size + 1 := by omega
  have w3z := hb3.size
  try simp at w3z
  have w3B := Lib.hid hb3
  clear Kw3_out
  clear hb3
  have HV3 := Lib.hid (SRow.kept (SRow.alloc HV2.out _) w3B.out)
  cases o
  · go_wp2_with fail
    go_ret
    exact ⟨rfl, by (repeat' (first | exact Below.refl _ _ | refine bl_out ?_ (by assumption) | exact (Hid.out (by assumption)) | refine bl_alloc ?_ _ | refine bl_drewN ?_ _ | refine bl_drew ?_ | refine bl_set ?_ ?_ _ | omega | (simp; done) | (simp; omega)))⟩
  have HCF := Lib.hid (hcf_cfg HX.out).1
  have HNUM := Lib.hid (hcf_num HX.out)
  clear HV1 HV2
  go_wp2_with fail
  refine (i_ConfigOpen v xs _ _ (SRow.alloc HV3.out _) (by omega)).mono ?_
  rintro e w4 ⟨vo, rfl, ho, hb4⟩
  have Kw4_out : Blk w4 (w2.heap.size) #[.int .i64 S, .int .i64 L, .int .i64 J] := blk_later hb4 (blk_alloc Kw3_outH.out (.cells #[.int .i64 S, .int .i64 L, .int .i64 J] 33))
  obtain ⟨w4_c0_out, w4_c1_out, w4_c2_out, w4_f0_out, w4_f1_out, w4_f2_out⟩ := blk3 Kw4_out
  have Kw4_outH := Lib.hid Kw4_out
  have w4_l_out := Kw4_out.lt
  have w4_m_out : w2.heap.size < w4.heap.size + 1 := by omega
  have w4z := hb4.size
  try simp at w4z
  have w4B := Lib.hid hb4
  clear Kw4_out
  clear hb4
  rcases (hcf_cfg HX.out).2 with hos | ⟨⟨N, Lx, C⟩, hos⟩
  · obtain ⟨rfl, rfl, rfl, _⟩ := hcf_none HX.out HCF.out hos
    rw [hos] at ho
    obtain ⟨ao, co, rfl, _, _⟩ := SRow.opened scs_len ho
    clear ho hos
    simp only [List.length_nil]
    go_wp2_with fail
    go_ret
    exact ⟨rfl, by (repeat' (first | exact Below.refl _ _ | refine bl_out ?_ (by assumption) | exact (Hid.out (by assumption)) | refine bl_alloc ?_ _ | refine bl_drewN ?_ _ | refine bl_drew ?_ | refine bl_set ?_ ?_ _ | omega | (simp; done) | (simp; omega)))⟩
  have HL : Hid (hlvR Lx C = (S, L, J, true)) := Lib.hid (hcf_one HX.out HCF.out hos)
  have HXS := Lib.hid (hcf_single HX.out HCF.out hos)
  rw [hos] at ho
  have HOO := Lib.hid ho
  obtain ⟨ao, co, rfl, hco⟩ := Shells.opened ho
  clear ho hos
  rcases hco with hco | ⟨g, rfl, hg1, hg2, hco⟩
  · cases hco
  obtain ⟨_, e1, e2⟩ := hco 0 (by simp)
  have e1 : w4.cell? ⟨g, 1, none⟩ = some (.int .i64 Lx) := e1
  have e2 : w4.cell? ⟨g, 2, none⟩ = some (.int .i64 C) := e2
  clear hco
  have he1 := Lib.hid e1
  have he2 := Lib.hid e2
  clear e1 e2
  simp only [List.length_cons, List.length_nil]
  try simp at hg1
  go_wp2_with fail
  refine (i_HundConfig _ _ _ S L J true _ HOO.out (by simp) HXS).mono ?_
  rintro e w5 ⟨rfl, hb5⟩
  have Kw5_out : Blk w5 (w2.heap.size) #[.int .i64 S, .int .i64 L, .int .i64 J] := blk_later hb5 Kw4_outH.out
  obtain ⟨w5_c0_out, w5_c1_out, w5_c2_out, w5_f0_out, w5_f1_out, w5_f2_out⟩ := blk3 Kw5_out
  have Kw5_outH := Lib.hid Kw5_out
  have w5_l_out := Kw5_out.lt
  have w5_m_out : w2.heap.size < w5.heap.size + 1 := by omega
  have w5z := hb5.size
  try simp at w5z
  have w5B := Lib.hid hb5
  clear Kw5_out
  clear hb5
  have q1 := held_cell w5B.out he1.out hg2
  have q2 := held_cell w5B.out he2.out hg2
  have g5 : g < w5.heap.size := Nat.lt_of_lt_of_le hg2 w5z
  go_upto_region 12 with fail
  have xl0 : g < (w5.alloc (.cells #[.int .i64 S, .int .i64 L, .int .i64 J] 33)).heap.size := by simp; omega
  have xc0 : (w5.alloc (.cells #[.int .i64 S, .int .i64 L, .int .i64 J] 33)).cell? ⟨g, 1, none⟩ = some (.int .i64 Lx) := by rw [World.cell?_alloc_past _ _ _ g5]; exact q1
  have xl1 : g < (w5.alloc (.cells #[.int .i64 S, .int .i64 L, .int .i64 J] 33)).heap.size := by simp; omega
  have xc1 : (w5.alloc (.cells #[.int .i64 S, .int .i64 L, .int .i64 J] 33)).cell? ⟨g, 2, none⟩ = some (.int .i64 C) := by rw [World.cell?_alloc_past _ _ _ g5]; exact q2
  have Kz6_out : Blk (w5.alloc (.cells #[.int .i64 S, .int .i64 L, .int .i64 J] 33)) (w2.heap.size) #[.int .i64 S, .int .i64 L, .int .i64 J] := (blk_alloc Kw5_outH.out (.cells #[.int .i64 S, .int .i64 L, .int .i64 J] 33))
  have Kz6_x : Blk (w5.alloc (.cells #[.int .i64 S, .int .i64 L, .int .i64 J] 33)) (w5.heap.size) #[.int .i64 S, .int .i64 L, .int .i64 J] := (blk_new (by simp))
  have Bz6 : Below w.heap.size w (w5.alloc (.cells #[.int .i64 S, .int .i64 L, .int .i64 J] 33)) := by (repeat' (first | exact Below.refl _ _ | refine bl_out ?_ (by assumption) | exact (Hid.out (by assumption)) | refine bl_alloc ?_ _ | refine bl_drewN ?_ _ | refine bl_drew ?_ | refine bl_set ?_ ?_ _ | omega | (simp; done) | (simp; omega)))
  have Sz6 : (w5.alloc (.cells #[.int .i64 S, .int .i64 L, .int .i64 J] 33)).heap.size = w5.heap.size + 1 := by simp
  generalize (w5.alloc (.cells #[.int .i64 S, .int .i64 L, .int .i64 J] 33)) = z6 at *
  have Sz6a := Nat.le_of_eq Sz6
  have Sz6b := Nat.le_of_eq Sz6.symm
  clear Sz6
  obtain ⟨z6_c0_out, z6_c1_out, z6_c2_out, z6_f0_out, z6_f1_out, z6_f2_out⟩ := blk3 Kz6_out
  have Kz6_outH := Lib.hid Kz6_out
  have z6_l_out := Kz6_out.lt
  obtain ⟨z6_c0_x, z6_c1_x, z6_c2_x, z6_f0_x, z6_f1_x, z6_f2_x⟩ := blk3 Kz6_x
  have Kz6_xH := Lib.hid Kz6_x
  have z6_l_x := Kz6_x.lt
  have z6B := Lib.hid Bz6
  clear Bz6
  clear Kz6_out Kz6_x
  go_cut [11, 12] (CutBlk z6 #[.int .i64 S, .int .i64 L, .int .i64 J] true)
  case first =>
    go_region_held3 (fun w' => Below z6.heap.size z6 w' ∧ w'.cell? ⟨w2.heap.size, 0, none⟩ = some (.int .i64 S) ∧ w'.cell? ⟨w2.heap.size, 1, none⟩ = some (.int .i64 L) ∧ w'.cell? ⟨w2.heap.size, 2, none⟩ = some (.int .i64 J) ∧ w'.cell? ⟨w5.heap.size, 0, none⟩ = some (.int .i64 S) ∧ w'.cell? ⟨w5.heap.size, 1, none⟩ = some (.int .i64 L) ∧ w'.cell? ⟨w5.heap.size, 2, none⟩ = some (.int .i64 J) ∧ w'.cell? ⟨g, 1, none⟩ = some (.int .i64 Lx) ∧ w'.cell? ⟨g, 2, none⟩ = some (.int .i64 C)) ((refine and_keep ?_ (fun hB => ⟨held_cell hB z6_c0_out z6_l_out, held_cell hB z6_c1_out z6_l_out, held_cell hB z6_c2_out z6_l_out, held_cell hB z6_c0_x z6_l_x, held_cell hB z6_c1_x z6_l_x, held_cell hB z6_c2_x z6_l_x, held_cell hB xc0 xl0, held_cell hB xc1 xl1⟩); (repeat' (first | with_reducible exact Below.refl _ _ | with_reducible refine bl_alloc ?_ _ | with_reducible refine bl_set ?_ ?_ _ | exact (Below.refl _ _).drew | with_reducible refine bl_drew ?_ | with_reducible refine btr ?_ hbA | omega | (simp; done) | (simp; omega))))) (first | (go_at_call 17; refine (i_HundLevel _ _ _ _ _ _ _ HL).mono ?_; rintro e wA ⟨rfl, hbA⟩; obtain ⟨hcA, hfA⟩ := bcell hbA; have hzA : z6.heap.size ≤ wA.heap.size := (by first | exact hbA.size | exact Nat.le_trans hzA hbA.size | (have h0 := hbA.size; (try simp at h0); omega)); (try (have hyA : z6.heap.size < wA.heap.size := by (have h0 := hbA.size; (try simp at h0); omega)))))
    all_goals
      go_wp2_with fail
      go_meet
      exact ⟨_, rfl, rfl, by (first | omega | (simp; omega)), by (repeat' (first | exact blk_new (by simp) | with_reducible refine blk_store2 (x := .int .i64 0) (y := .int .i64 0) ?_ | with_reducible refine blk_store3 (x := .int .i64 0) (y := .int .i64 0) (z := .int .i64 0) ?_ | with_reducible refine blk_drew ?_ | with_reducible refine blk_later hbA ?_)), by (repeat' (first | with_reducible exact Below.refl _ _ | with_reducible refine bl_alloc ?_ _ | with_reducible refine bl_set ?_ ?_ _ | exact (Below.refl _ _).drew | with_reducible refine bl_drew ?_ | with_reducible refine btr ?_ hbA | omega | (simp; done) | (simp; omega)))⟩
  case rest =>
    obtain ⟨g7, rfl, rfl, g7z, Kg7, hb7⟩ := hcut
    obtain ⟨w7, rfl⟩ : ∃ x, x = wc := ⟨_, rfl⟩
    have Kw7_out : Blk w7 (w2.heap.size) #[.int .i64 S, .int .i64 L, .int .i64 J] := blk_later hb7 Kz6_outH.out
    have Kw7_x : Blk w7 (w5.heap.size) #[.int .i64 S, .int .i64 L, .int .i64 J] := blk_later hb7 Kz6_xH.out
    obtain ⟨w7_c0_out, w7_c1_out, w7_c2_out, w7_f0_out, w7_f1_out, w7_f2_out⟩ := blk3 Kw7_out
    have Kw7_outH := Lib.hid Kw7_out
    have w7_l_out := Kw7_out.lt
    have w7_m_out : w2.heap.size < w7.heap.size + 1 := by omega
    obtain ⟨w7_c0_x, w7_c1_x, w7_c2_x, w7_f0_x, w7_f1_x, w7_f2_x⟩ := blk3 Kw7_x
    have Kw7_xH := Lib.hid Kw7_x
    have w7_l_x := Kw7_x.lt
    have w7_m_x : w5.heap.size < w7.heap.size + 1 := by omega
    have w7z := hb7.size
    try simp at w7z
    have w7B := Lib.hid hb7
    clear Kw7_out Kw7_x
    clear hb7
    obtain ⟨w7_c0_y, w7_c1_y, w7_c2_y, w7_f0_y, w7_f1_y, w7_f2_y⟩ := blk3 Kg7
    have Kg7H := Lib.hid Kg7
    have w7_l_y := Kg7.lt
    clear Kg7
    go_wp2_with fail
    go_ret
    exact ⟨rfl, by (repeat' (first | exact Below.refl _ _ | refine bl_out ?_ (by assumption) | exact (Hid.out (by assumption)) | refine bl_alloc ?_ _ | refine bl_drewN ?_ _ | refine bl_drew ?_ | refine bl_set ?_ ?_ _ | omega | (simp; done) | (simp; omega)))⟩

set_option maxRecDepth 100000 in
set_option maxHeartbeats 4000000 in
theorem l_FnHundFull (s : Option Addr) (len cap : Nat) (w : World) (h : Code w s len cap) (hl : len ≤ 9223372036854775807) (hc : cap ≤ 9223372036854775807) :
    Calls Try.prog 11 #[.slice s len cap] w (RTrueS w) := by
  have H := Lib.hid h
  clear h
  by_cases hbig : 1048576 < len
  · go_enter Try.func11, Try.ntmps11
    go_wp2_with fail
    go_ret
    exact ⟨rfl, Below.refl _ _⟩
  go_enter Try.func11, Try.ntmps11
  go_wp2_with fail
  refine (s_DrawHundConfig s len cap w H.out hl hc).mono ?_
  rintro e w1 ⟨v, rfl, ⟨xs, hO, hx⟩, hb1⟩
  have w1z := hb1.size
  try simp at w1z
  have w1B := Lib.hid hb1
  clear hb1
  have HV1 := Lib.hid hO
  clear hO
  obtain ⟨S, L, J, o, hX⟩ := pair4s (hcfR xs)
  have HX := Lib.hid hX
  clear hX
  go_wp2_with fail
  refine (i_HundConfig v xs _ S L J o _ HV1.out (by omega) HX).mono ?_
  rintro e w2 ⟨rfl, hb2⟩
  have w2z := hb2.size
  try simp at w2z
  have w2B := Lib.hid hb2
  clear hb2
  have HV2 := Lib.hid (SRow.kept HV1.out w2B.out)
  go_wp2_with fail
  refine (s_HundConfig v xs _ S L J o _ (SRow.alloc HV2.out _) (by omega) HX).mono ?_
  rintro e w3 ⟨rfl, hb3⟩
  have Kw3_out : Blk w3 (w2.heap.size) #[.int .i64 S, .int .i64 L, .int .i64 J] := blk_later hb3 (blk_new (by simp))
  obtain ⟨w3_c0_out, w3_c1_out, w3_c2_out, w3_f0_out, w3_f1_out, w3_f2_out⟩ := blk3 Kw3_out
  have Kw3_outH := Lib.hid Kw3_out
  have w3_l_out := Kw3_out.lt
  have w3_m_out : w2.heap.size < w3.heap.size + 1 := by omega
  have w3z := hb3.size
  try simp at w3z
  have w3B := Lib.hid hb3
  clear Kw3_out
  clear hb3
  have HV3 := Lib.hid (SRow.kept (SRow.alloc HV2.out _) w3B.out)
  cases o
  · go_wp2_with fail
    go_ret
    exact ⟨rfl, by (repeat' (first | exact Below.refl _ _ | refine bl_out ?_ (by assumption) | exact (Hid.out (by assumption)) | refine bl_alloc ?_ _ | refine bl_drewN ?_ _ | refine bl_drew ?_ | refine bl_set ?_ ?_ _ | omega | (simp; done) | (simp; omega)))⟩
  have HCF := Lib.hid (hcf_cfg HX.out).1
  have HNUM := Lib.hid (hcf_num HX.out)
  clear HV1 HV2
  go_wp2_with fail
  refine (i_ConfigOpen v xs _ _ (SRow.alloc HV3.out _) (by omega)).mono ?_
  rintro e w4 ⟨vo, rfl, ho, hb4⟩
  have Kw4_out : Blk w4 (w2.heap.size) #[.int .i64 S, .int .i64 L, .int .i64 J] := blk_later hb4 (blk_alloc Kw3_outH.out (.cells #[.int .i64 S, .int .i64 L, .int .i64 J] 33))
  obtain ⟨w4_c0_out, w4_c1_out, w4_c2_out, w4_f0_out, w4_f1_out, w4_f2_out⟩ := blk3 Kw4_out
  have Kw4_outH := Lib.hid Kw4_out
  have w4_l_out := Kw4_out.lt
  have w4_m_out : w2.heap.size < w4.heap.size + 1 := by omega
  have w4z := hb4.size
  try simp at w4z
  have w4B := Lib.hid hb4
  clear Kw4_out
  clear hb4
  have HV4 := Lib.hid (SRow.kept (SRow.alloc HV3.out _) w4B.out)
  rcases (hcf_cfg HX.out).2 with hos | ⟨⟨N, Lx, C⟩, hos⟩
  rotate_left
  · rw [hos] at ho
    obtain ⟨ao, co, rfl, _, _⟩ := SRow.opened scs_len ho
    clear ho hos
    simp only [List.length_cons, List.length_nil]
    go_wp2_with fail
    refine (i_LevelValid _ _ _ _).mono ?_
    rintro e w5 ⟨rfl, hb5⟩
    have Kw5_out : Blk w5 (w2.heap.size) #[.int .i64 S, .int .i64 L, .int .i64 J] := blk_later hb5 Kw4_outH.out
    obtain ⟨w5_c0_out, w5_c1_out, w5_c2_out, w5_f0_out, w5_f1_out, w5_f2_out⟩ := blk3 Kw5_out
    have Kw5_outH := Lib.hid Kw5_out
    have w5_l_out := Kw5_out.lt
    have w5_m_out : w2.heap.size < w5.heap.size + 1 := by omega
    have w5z := hb5.size
    try simp at w5z
    have w5B := Lib.hid hb5
    clear Kw5_out
    clear hb5
    rw [HNUM.out.2.2]
    go_wp2_with fail
    go_ret
    exact ⟨rfl, by (repeat' (first | exact Below.refl _ _ | refine bl_out ?_ (by assumption) | exact (Hid.out (by assumption)) | refine bl_alloc ?_ _ | refine bl_drewN ?_ _ | refine bl_drew ?_ | refine bl_set ?_ ?_ _ | omega | (simp; done) | (simp; omega)))⟩
  have HMORE := Lib.hid (fun hl => hcf_more HCF.out hos hl)
  obtain ⟨rfl, rfl, rfl, _⟩ := hcf_none HX.out HCF.out hos
  rw [hos] at ho
  obtain ⟨ao, co, rfl, _, _⟩ := SRow.opened scs_len ho
  clear ho hos
  simp only [List.length_nil]
  have hlen0 := (cfg_at HCF.out).2
  obtain ⟨ac, cc, rfl, hcc⟩ := Shells.opened HV4.out
  rcases hcc with hcc | ⟨g, rfl, hg1, hg2, hcc⟩
  · rw [hcc] at hlen0; simp at hlen0
  obtain ⟨e0, _, _⟩ := hcc (xs.length - 1) (by omega)
  clear hcc
  obtain ⟨n, hlen⟩ : ∃ n, xs.length = n + 1 := ⟨xs.length - 1, by omega⟩
  have wn : IntKind.i64.wrap (((n + 1 : Nat) : Int) - 1) = (n : Int) := by rw [IntWalk.i64_in _ (by omega)]; omega
  have wn2 : IntKind.i64.wrap ((n : Int) + 1 - 1) = (n : Int) := by rw [IntWalk.i64_in _ (by omega)]; omega
  rw [hlen, Nat.add_sub_cancel] at e0 HMORE
  have HLEN := Lib.hid hlen
  have hx2 : n + 1 ≤ 20 := by omega
  rw [hlen]
  clear hlen hlen0
  generalize hln : (shAt xs n).1 = M at *
  clear hln
  have k9 : (n : Int) < ((n + 1 : Nat) : Int) := by omega
  have k8 : (0 : Int) ≤ (n : Int) := by omega
  have k7 : (n : Int) + 1 - 1 = (n : Int) := by omega
  by_cases hM : M = 7
  · subst hM
    go_wp2_with fail
    refine (i_LevelValid _ _ _ _).mono ?_
    rintro e w5 ⟨rfl, hb5⟩
    have Kw5_out : Blk w5 (w2.heap.size) #[.int .i64 0, .int .i64 0, .int .i64 0] := blk_later hb5 Kw4_outH.out
    obtain ⟨w5_c0_out, w5_c1_out, w5_c2_out, w5_f0_out, w5_f1_out, w5_f2_out⟩ := blk3 Kw5_out
    have Kw5_outH := Lib.hid Kw5_out
    have w5_l_out := Kw5_out.lt
    have w5_m_out : w2.heap.size < w5.heap.size + 1 := by omega
    have w5z := hb5.size
    try simp at w5z
    have w5B := Lib.hid hb5
    clear Kw5_out
    clear hb5
    rw [HNUM.out.2.2]
    go_wp2_with fail
    go_ret
    exact ⟨rfl, by (repeat' (first | exact Below.refl _ _ | refine bl_out ?_ (by assumption) | exact (Hid.out (by assumption)) | refine bl_alloc ?_ _ | refine bl_drewN ?_ _ | refine bl_drew ?_ | refine bl_set ?_ ?_ _ | omega | (simp; done) | (simp; omega)))⟩
  have hM1 : (M == 7) = false := by simp [hM]
  have HXM := Lib.hid (HMORE.out hM)
  clear hM
  obtain ⟨i0, hi, hz0, hz1, hz2⟩ := info_parts infoShell
  have HNEW : Hid (∀ j u, (xs.flatMap scs)[j]? = some u → w4.cell? ((⟨g, 0, none⟩ : Addr).add j) = some u) := Lib.hid (World.ownsRow.cells HV4.out (g := g) (by rfl))
  have HFL : Hid ((xs.flatMap scs).length = (n + 1) * 3) := Lib.hid (by rw [flat_len scs_len, HLEN.out])
  have hO : World.ownsRow (w4.alloc (.cells #[] 51)) w4.heap.size 51 3 (.slice (some ⟨w4.heap.size, 0, none⟩) 0 0) 0 [] := SRow.empty (f := scs) w4
  go_wp2_with (at_builtin; refine wpList_append_own _ rfl _ _ 44 rfl w4.heap.size 51 i0 (.agg #[.int .i64 0, .int .i64 0, .int .i64 0]) 3 24 Try.underlying44 hi hz0 hz1 hz2 rfl (by decide) _ _ _ rfl hO ⟨g, 0, none⟩ (n + 1) cc (xs.flatMap scs) rfl HFL.out ?c1 ?c2 ?c3 ?c4 ?c5 ?_)
  case c1 =>
    intro j u hj
    have h0 := HNEW.out j u hj
    have e : ((⟨g, 0, none⟩ : Addr).add j) = ⟨g, j, none⟩ := by unfold Addr.add; split <;> simp_all
    rw [e] at h0
    first | exact h0 | (rw [e, World.cell?_alloc_past _ _ _ hg2]; exact h0)
  case c2 => intro u a b c _ hu; simp [scs] at hu; rcases hu with rfl | rfl | rfl <;> rfl
  case c3 => unfold maxLen; omega
  case c4 => omega
  intro v5 x5 hown5 hgrow5 _
  have BX5 : Below w4.heap.size w4 x5 := (Below.refl _ _ |>.alloc (Nat.le_refl _) _).grown hgrow5 (by simp) (fun k hk => by simp [Value.ownBlock] at hk; omega)
  have HBX5 := Lib.hid BX5
  have hs5 := BX5.size
  clear BX5 hgrow5 hO
  try simp only [Nat.zero_add, List.nil_append] at hown5
  go_wp2_with (at_builtin; refine wpList_append_own _ rfl _ _ 44 rfl w4.heap.size 51 i0 (.agg #[.int .i64 0, .int .i64 0, .int .i64 0]) 3 24 Try.underlying44 hi hz0 hz1 hz2 rfl (by decide) _ _ _ rfl (hown5.alloc _) ⟨x5.heap.size, 0, none⟩ 1 1 (scs (7, 0, 1)) rfl rfl ?d1 ?d2 ?d3 ?d4 ?d5 ?_)
  case d1 => first | exact cells_new3 _ _ _ _ _ | exact fun _ _ h => h
  case d2 => intro u hu; simp [scs] at hu; rcases hu with rfl | rfl | rfl <;> rfl
  case d3 => unfold maxLen; omega
  case d4 => omega
  case d5 => first | omega | (simp; omega)
  intro v6 x6 hown6 hgrow6 _
  have BX6 : Below w4.heap.size w4 x6 := app_below HBX5.out hown5 hgrow6 (Nat.le_refl _) hs5
  have O6 : Shells x6 w4.heap.size v6 (xs ++ [(7, 0, 1)]) := by
    unfold Shells SRow
    rw [List.length_append, List.length_singleton, HLEN.out, List.flatMap_append]
    exact hown6
  have HO6 := Lib.hid O6
  have hb6 := BX6
  clear hown5 hown6 hgrow6 O6 BX6
  have Kx6_out : Blk x6 (w2.heap.size) #[.int .i64 0, .int .i64 0, .int .i64 0] := blk_later hb6 Kw4_outH.out
  obtain ⟨x6_c0_out, x6_c1_out, x6_c2_out, x6_f0_out, x6_f1_out, x6_f2_out⟩ := blk3 Kx6_out
  have Kx6_outH := Lib.hid Kx6_out
  have x6_l_out := Kx6_out.lt
  have x6_m_out : w2.heap.size < x6.heap.size + 1 := by omega
  have x6z := hb6.size
  try simp at x6z
  have x6B := Lib.hid hb6
  clear Kx6_out
  clear hb6
  go_wp2_with fail
  refine (i_HundConfig v6 _ _ 1 0 1 true _ HO6.out (by simp; omega) HXM).mono ?_
  rintro e w7 ⟨rfl, hb7⟩
  have Kw7_out : Blk w7 (w2.heap.size) #[.int .i64 0, .int .i64 0, .int .i64 0] := blk_later hb7 Kx6_outH.out
  obtain ⟨w7_c0_out, w7_c1_out, w7_c2_out, w7_f0_out, w7_f1_out, w7_f2_out⟩ := blk3 Kw7_out
  have Kw7_outH := Lib.hid Kw7_out
  have w7_l_out := Kw7_out.lt
  have w7_m_out : w2.heap.size < w7.heap.size + 1 := by omega
  have w7z := hb7.size
  try simp at w7z
  have w7B := Lib.hid hb7
  clear Kw7_out
  clear hb7
  go_wp2_with fail
  go_ret
  exact ⟨rfl, by (repeat' (first | exact Below.refl _ _ | refine bl_out ?_ (by assumption) | exact (Hid.out (by assumption)) | refine bl_alloc ?_ _ | refine bl_drewN ?_ _ | refine bl_drew ?_ | refine bl_set ?_ ?_ _ | omega | (simp; done) | (simp; omega)))⟩

end Go.Proofs.Ytpdhbilghmejiaa
