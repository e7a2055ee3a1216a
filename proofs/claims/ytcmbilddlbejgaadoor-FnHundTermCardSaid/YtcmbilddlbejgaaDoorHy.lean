/- The walk of FnHundTerm. -/
import Derived.Test.YtcmbilddlbejgaaDoorMf
import Derived.Test.YtcmbilddlbejgaaDoorZ
import Derived.Test.YtcmbilddlbejgaaDoorHk
import Derived.Test.YtcmbilddlbejgaaDoorTk
import Derived.BigQuiet
namespace Go.Proofs.YtcmbilddlbejgaaDoor
open Go.RowKit
set_option linter.unusedVariables false

def cntT (xs : List (Int × Int)) (S L : Int) (k : Nat) : Int := (((xs.take k).countP fun t => decide (t = (S, L)) : Nat) : Int)
theorem cntT_bd (xs : List (Int × Int)) (S L : Int) (k : Nat) : 0 ≤ cntT xs S L k ∧ cntT xs S L k ≤ k := by
  unfold cntT
  have h1 := List.countP_le_length (p := fun t : Int × Int => decide (t = (S, L))) (l := xs.take k)
  have h2 := List.length_take_le k xs
  omega
theorem cntT_succ {xs : List (Int × Int)} {S L : Int} {k : Nat} {x y : Int} (h : xs[k]? = some (x, y)) : cntT xs S L (k + 1) = cntT xs S L k + (if x = S ∧ y = L then 1 else 0) := by
  obtain ⟨hk, he⟩ := List.getElem?_eq_some_iff.1 h
  unfold cntT
  rw [List.take_succ_eq_append_getElem hk, he, List.countP_append, List.countP_singleton]
  by_cases hh : x = S ∧ y = L
  · obtain ⟨rfl, rfl⟩ := hh; simp
  · have h2 : ((x, y) : Int × Int) ≠ (S, L) := fun e => hh (by simpa using e)
    simp [hh, h2]

set_option maxRecDepth 100000 in
set_option maxHeartbeats 1000000 in
theorem l_termsMany (v : Value) (base : Nat) (xs : List (Int × Int)) (S L : Int) (w : World) (hv : Terms w base v xs) (hl : xs.length ≤ 1000) :
    Calls Tryd.prog 8 #[v, .agg #[.int .i64 S, .int .i64 L]] w fun e w' => e = .returned (.int .i64 (cntT xs S L xs.length)) ∧ Below w.heap.size w w' := by
  obtain ⟨a, cap, rfl, hmx, hc⟩ := SRow.opened tcs_len hv
  have HC := Lib.hid hc
  clear hc hv
  go_enter Tryd.func8, Tryd.ntmps8
  go_wp2_with fail
  have K0 : Blk (w.alloc (.cells #[.int .i64 S, .int .i64 L] 26)) w.heap.size #[.int .i64 S, .int .i64 L] := blk_new rfl
  have B0 := bl_alloc (Below.refl w.heap.size w) (.cells #[.int .i64 S, .int .i64 L] 26)
  generalize w.alloc (.cells #[.int .i64 S, .int .i64 L] 26) = z at *
  have hz := B0.size
  have lz := K0.lt
  have HK := Lib.hid K0
  have HB := Lib.hid B0
  clear K0 B0
  go_loopw [5, 6] (fun c i wr => ∃ k : Nat, k ≤ xs.length ∧ i = .int .i64 (k : Int) ∧ c = .int .i64 (cntT xs S L k) ∧ Below z.heap.size z wr) (fun _ i _ => xs.length - (intOf i).toNat)
  case atStart => exact ⟨0, Nat.zero_le _, rfl, rfl, Below.refl _ _⟩
  case round =>
    obtain ⟨k, hk, rfl, rfl, hB⟩ := hrel
    have HBr := Lib.hid hB
    have hsr := hB.size
    obtain ⟨q0, q1⟩ := cntT_bd xs S L k
    by_cases hlt : k < xs.length
    · rcases HC.out with h | ⟨g, rfl, hg1, hg2, hc⟩
      · subst h; simp at hlt
      obtain ⟨⟨x, y⟩, hx⟩ : ∃ p, xs[k]? = some p := ⟨xs[k], List.getElem?_eq_getElem hlt⟩
      have CS := Lib.hid (cntT_succ (S := S) (L := L) hx)
      have a0 := hc k 0 _ _ hx rfl
      have a1 := hc k 1 _ _ hx rfl
      simp only [Nat.add_zero] at a0 a1
      have b0 : wr.cell? ⟨g, k * 2, none⟩ = some (.int .i64 x) := by rw [hB.cell (p := ⟨g, k * 2, none⟩) (Nat.lt_of_lt_of_le hg2 hz), HB.out.cell (p := ⟨g, k * 2, none⟩) hg2]; exact a0
      have b1 : wr.cell? ⟨g, k * 2 + 1, none⟩ = some (.int .i64 y) := by rw [hB.cell (p := ⟨g, k * 2 + 1, none⟩) (Nat.lt_of_lt_of_le hg2 hz), HB.out.cell (p := ⟨g, k * 2 + 1, none⟩) hg2]; exact a1
      obtain ⟨d0, d1, _, _⟩ := blk2 (blk_later hB HK.out)
      have gl : g < wr.heap.size := by omega
      have zl : w.heap.size < wr.heap.size := by omega
      clear a0 a1 hc hx hB
      obtain ⟨c, hcc⟩ : ∃ c, cntT xs S L k = c := ⟨_, rfl⟩
      simp only [hcc] at q0 q1 CS ⊢
      clear hcc
      by_cases hh : x = S ∧ y = L
      · obtain ⟨rfl, rfl⟩ := hh
        rw [if_pos ⟨rfl, rfl⟩] at CS
        go_wp2_with fail
        go_quiet (fail)
        go_wp2_with fail
        go_roundw
        case rel => exact ⟨k + 1, by omega, by go_num, by rw [CS.out], below_drewN HBr.out _⟩
        case measure => simp [intOf]; omega
      · rw [if_neg hh] at CS
        by_cases hxS : x = S
        · have hyL : y ≠ L := fun e => hh ⟨hxS, e⟩
          subst hxS
          have e1 : (y == L) = false := by simpa using hyL
          clear hh hyL
          go_wp2_with fail
          go_quiet (fail)
          go_wp2_with fail
          go_roundw
          case rel => exact ⟨k + 1, by omega, by go_num, by rw [CS.out]; simp, below_drewN HBr.out _⟩
          case measure => simp [intOf]; omega
        · have e1 : (x == S) = false := by simpa using hxS
          clear hh hxS
          go_wp2_with fail
          go_quiet (fail)
          go_wp2_with fail
          go_roundw
          case rel => exact ⟨k + 1, by omega, by go_num, by rw [CS.out]; simp, below_drewN HBr.out _⟩
          case measure => simp [intOf]; omega
    · obtain rfl : k = xs.length := by omega
      go_wp2_with fail
      go_ret
      exact ⟨rfl, btr HB.out hB⟩

theorem ti_facts {l n : Int} (he : elecB l n = true) : (∀ (k : Nat) (x y : Int), (termsI (microL l n (statesN l)) 81)[k]? = some (x, y) → x = (hundS l n.toNat).1 → y ≤ (hundS l n.toNat).2) ∧ (hundS l n.toNat).1 = min n (4 * l + 2 - n) ∧ cntT (termsI (microL l n (statesN l)) 81) (hundS l n.toNat).1 (hundS l n.toNat).2 (termsI (microL l n (statesN l)) 81).length = 1 ∧ (termsI (microL l n (statesN l)) 81).length ≤ 30 := by
  have h := okTI_of he
  unfold okTI at h
  generalize termsI (microL l n (statesN l)) 81 = T at *
  generalize hundS l n.toNat = h0 at *
  obtain ⟨S, L⟩ := h0
  simp only [Bool.and_eq_true, decide_eq_true_eq] at h
  obtain ⟨⟨⟨h1, h2⟩, h3⟩, h4⟩ := h
  refine ⟨fun k x y hk hx => ?_, h2, ?_, h4⟩
  · have := List.all_eq_true.1 h1 _ (List.mem_of_getElem? hk)
    simp only [Bool.or_eq_true, decide_eq_true_eq] at this
    rcases this with e | e
    · exact absurd hx e
    · exact e
  · unfold cntT
    rw [List.take_length, h3]
    rfl

set_option maxRecDepth 100000 in
set_option maxHeartbeats 2000000 in
theorem l_FnHundTerm (a : Option Addr) (len cap : Nat) (w : World) (h : Code w a len cap) (hl : len ≤ 9223372036854775807) (hc : cap ≤ 9223372036854775807) (ht : Tab w) :
    Calls Tryd.prog 3 #[.slice a len cap] w (RTrueU w) := by
  have H := Lib.hid h
  have HT := Lib.hid ht
  clear h ht
  by_cases hbig : 1048576 < len
  · go_enter Tryd.func3, Tryd.ntmps3
    go_wp2_with fail
    go_ret
    exact ⟨rfl, Below.refl _ _⟩
  go_enter Tryd.func3, Tryd.ntmps3
  go_wp2_with fail
  refine (s_DrawHundTerm a len cap w H.out hl hc).mono ?_
  rintro e w1 ⟨l, n, rfl, hl1, hn1, hb1⟩
  have w1z := hb1.size
  try simp at w1z
  have w1B := Lib.hid hb1
  clear hb1
  obtain ⟨S, L, o, hX⟩ := pair3u (hundR l n)
  have HX := Lib.hid hX
  clear hX
  go_wp2_with fail
  refine (i_HundTerm _ _ _ _ _ _ HX).mono ?_
  rintro e w2 ⟨rfl, hb2⟩
  have w2z := hb2.size
  try simp at w2z
  have w2B := Lib.hid hb2
  clear hb2
  go_wp2_with fail
  refine (s_HundTerm _ _ _ _ _ _ HX).mono ?_
  rintro e w3 ⟨rfl, hb3⟩
  have Kw3_out : Blk w3 (w2.heap.size) #[.int .i64 S, .int .i64 L] := blk_later hb3 (blk_new (by simp))
  obtain ⟨w3_c0_out, w3_c1_out, w3_f0_out, w3_f1_out⟩ := blk2 Kw3_out
  have Kw3_outH := Lib.hid Kw3_out
  have w3_l_out := Kw3_out.lt
  have w3_m_out : w2.heap.size < w3.heap.size + 1 := by omega
  have w3z := hb3.size
  try simp at w3z
  have w3B := Lib.hid hb3
  clear Kw3_out
  clear hb3
  cases o
  · go_wp2_with fail
    go_ret
    exact ⟨rfl, by (repeat' (first | exact Below.refl _ _ | refine bl_out ?_ (by assumption) | exact (Hid.out (by assumption)) | refine bl_alloc ?_ _ | refine bl_drewN ?_ _ | refine bl_drew ?_ | refine bl_set ?_ ?_ _ | omega | (simp; done) | (simp; omega)))⟩
  have he : elecB l n = true := by
    cases he : elecB l n
    · have := (hundR_no he HX.out).2.2
      cases this
    · rfl
  obtain ⟨t1, t2, t3, t4⟩ := ti_facts he
  obtain ⟨s1, s2, _⟩ := hundR_yes he HX.out
  rw [← s1, ← s2] at t1 t3
  rw [← s1] at t2
  clear s1 s2
  obtain ⟨⟨q1, q2⟩, q3, q4⟩ := elecB_iff.1 he
  have HE := Lib.hid he
  have T1 := Lib.hid t1
  have T3 := Lib.hid t3
  have T2 := Lib.hid t2
  have TT := HT.out.below (w' := w3.alloc (.cells #[.int .i64 S, .int .i64 L] 26)) (by (repeat' (first | exact Below.refl _ _ | refine bl_out ?_ (by assumption) | exact (Hid.out (by assumption)) | refine bl_alloc ?_ _ | refine bl_drewN ?_ _ | refine bl_drew ?_ | refine bl_set ?_ ?_ _ | omega | (simp; done) | (simp; omega))))
  clear t1 t2 t3 he
  go_wp2_with fail
  refine (i_TermsOf l n _ HE.out TT).mono ?_
  rintro e w4 ⟨v, rfl, hv, hb4⟩
  have Kw4_out : Blk w4 (w2.heap.size) #[.int .i64 S, .int .i64 L] := blk_later hb4 (blk_alloc Kw3_outH.out _)
  have HK4 := Lib.hid Kw4_out
  have l4 := Kw4_out.lt
  have w4B := Lib.hid hb4
  obtain ⟨T, hT⟩ : ∃ T, termsI (microL l n (statesN l)) 81 = T := ⟨_, rfl⟩
  rw [hT] at T1 T3 t4 hv
  clear hT hb4 TT Kw4_out w3_c0_out w3_c1_out w3_f0_out w3_f1_out
  have HV := Lib.hid hv
  obtain ⟨g0, cp, rfl, hmx, hc⟩ := SRow.opened tcs_len hv
  have HC := Lib.hid hc
  clear hc hv
  have HBase : Hid (Below w.heap.size w w4) := Lib.hid (by (repeat' (first | exact Below.refl _ _ | refine bl_out ?_ (by assumption) | exact (Hid.out (by assumption)) | refine bl_alloc ?_ _ | refine bl_drewN ?_ _ | refine bl_drew ?_ | refine bl_set ?_ ?_ _ | omega | (simp; done) | (simp; omega))))
  go_wp2_with fail
  go_loopw [10] (fun i wr => ∃ k : Nat, k ≤ T.length ∧ i = .int .i64 (k : Int) ∧ Below w4.heap.size w4 wr) (fun i _ => T.length - (intOf i).toNat)
  case atStart => exact ⟨0, Nat.zero_le _, rfl, Below.refl _ _⟩
  case round =>
    obtain ⟨k, hk, rfl, hB⟩ := hrel
    have HBr := Lib.hid hB
    have hsr := hB.size
    obtain ⟨d0, d1, _, _⟩ := blk2 (blk_later hB HK4.out)
    have zl : w2.heap.size < wr.heap.size := by omega
    by_cases hlt : k < T.length
    · rcases HC.out with h | ⟨g, rfl, hg1, hg2, hc⟩
      · subst h; simp at hlt
      obtain ⟨⟨x, y⟩, hx⟩ : ∃ p, T[k]? = some p := ⟨T[k], List.getElem?_eq_getElem hlt⟩
      have a0 := hc k 0 _ _ hx rfl
      have a1 := hc k 1 _ _ hx rfl
      simp only [Nat.add_zero] at a0 a1
      have b0 : wr.cell? ⟨g, k * 2, none⟩ = some (.int .i64 x) := by rw [hB.cell (p := ⟨g, k * 2, none⟩) hg2]; exact a0
      have b1 : wr.cell? ⟨g, k * 2 + 1, none⟩ = some (.int .i64 y) := by rw [hB.cell (p := ⟨g, k * 2 + 1, none⟩) hg2]; exact a1
      have gl : g < wr.heap.size := Nat.lt_of_lt_of_le hg2 hsr
      have hxy := T1.out k x y hx
      clear a0 a1 hc hx hB
      by_cases hxS : x = S
      · have hyL := hxy hxS
        subst hxS
        clear hxy
        go_wp2_with fail
        go_quiet (fail)
        go_wp2_with fail
        go_roundw
        case rel => exact ⟨k + 1, by omega, by go_num, below_drewN HBr.out _⟩
        case measure => simp [intOf]; omega
      · have e1 : (x == S) = false := by simpa using hxS
        clear hxy hxS
        go_wp2_with fail
        go_quiet (fail)
        go_wp2_with fail
        go_roundw
        case rel => exact ⟨k + 1, by omega, by go_num, below_drewN HBr.out _⟩
        case measure => simp [intOf]; omega
    · obtain rfl : k = T.length := by omega
      have VV : Hid (Terms wr w3.heap.size (.slice g0 T.length cp) T) := Lib.hid (SRow.lower (SRow.kept HV.out hB) (by simp))
      have FIN : Hid (∀ W, Below wr.heap.size wr W → Below w.heap.size w W) := Lib.hid (fun W hW => btr (btr HBase.out HBr.out) hW)
      clear hk hB
      by_cases hmn : n ≤ 4 * l + 2 - n
      · have hS : S = n := by have := T2.out; omega
        subst hS
        go_wp2_with fail
        refine (l_termsMany _ _ T _ _ _ VV.out (by omega)).mono ?_
        rintro e w5 ⟨rfl, hb5⟩
        have HB5 := Lib.hid (FIN.out w5 hb5)
        clear hb5
        rw [T3.out]
        go_wp2_with fail
        go_ret
        exact ⟨rfl, HB5.out⟩
      · have hS : S = 4 * l + 2 - n := by have := T2.out; omega
        subst hS
        go_wp2_with fail
        refine (l_termsMany _ _ T _ _ _ VV.out (by omega)).mono ?_
        rintro e w5 ⟨rfl, hb5⟩
        have HB5 := Lib.hid (FIN.out w5 hb5)
        clear hb5
        rw [T3.out]
        go_wp2_with fail
        go_ret
        exact ⟨rfl, HB5.out⟩

end Go.Proofs.YtcmbilddlbejgaaDoor
