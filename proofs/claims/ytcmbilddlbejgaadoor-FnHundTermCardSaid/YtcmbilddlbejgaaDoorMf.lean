/- The contract of impl.TermsOf. -/
import Derived.Test.YtcmbilddlbejgaaDoorMn
import Derived.Test.YtcmbilddlbejgaaDoorMs
import Derived.Test.YtcmbilddlbejgaaDoorW
import Derived.Deep.DeepCutAuto
namespace Go.Proofs.YtcmbilddlbejgaaDoor
open Go.RowKit
set_option linter.unusedVariables false

theorem termsI_succ (xs : List (Int × Int)) (i : Nat) : termsI xs (i + 1) = termsI xs i ++ List.replicate (fT xs (termsI xs i) (cell81 i).2 (cell81 i).1).toNat (cell81 i) := rfl
theorem termsI_len (xs : List (Int × Int)) : ∀ (d i : Nat), (termsI xs i).length ≤ (termsI xs (i + d)).length
  | 0, i => Nat.le_refl _
  | d + 1, i => by
    rw [← Nat.add_assoc, termsI_succ, List.length_append]
    have := termsI_len xs d i
    omega
theorem termsI_len30 {l n : Int} (he : elecB l n = true) {i : Nat} (hi : i ≤ 81) : (termsI (microL l n (statesN l)) i).length ≤ 30 := by
  have h := okTI_of he
  simp only [okTI, Bool.and_eq_true, decide_eq_true_eq] at h
  have h2 := termsI_len (microL l n (statesN l)) (81 - i) i
  rw [show i + (81 - i) = 81 by omega] at h2
  exact Nat.le_trans h2 h.2
theorem inT_self {S L : Int} (s0 : 0 ≤ S) (s1 : S ≤ 24) (l0 : 0 ≤ L) : inT S L L S = true := by
  unfold inT
  rw [inB_true (by omega) (by omega), hasB_iff.2 ⟨⟨s0, s1⟩, by omega, by omega⟩]; rfl
theorem fT_rep {S L : Int} (s0 : 0 ≤ S) (s1 : S ≤ 24) (l0 : 0 ≤ L) (xs P : List (Int × Int)) : ∀ k : Nat, fT xs (P ++ List.replicate k (S, L)) L S = fT xs P L S - k
  | 0 => by simp
  | k + 1 => by
    rw [rep_snoc, fT_snoc, fT_rep s0 s1 l0 xs P k, if_pos (inT_self s0 s1 l0)]
    omega
theorem terms_apart {w : World} {base : Nat} {v : Value} {xs : List (Int × Int)} {b n : Nat} {f : Int → Int → Int} (h : Terms w base v xs) (hm : MTab w b n f) : v.ownBlock ≠ some b := by
  obtain ⟨D, ⟨es, clock, hb, _⟩, _⟩ := hm
  unfold Terms SRow at h
  rcases h.2 with ⟨rfl, _⟩ | ⟨g, cap, cur, rfl, _, hg, _⟩
  · simp [Value.ownBlock]
  · intro e
    simp only [Value.ownBlock, Option.some.injEq] at e
    subst e
    rw [hb] at hg
    cases hg
def lenOf (v : Value) : Nat := match v with | .slice _ n _ => n | _ => 0
theorem lenOf_terms {w : World} {base : Nat} {v : Value} {xs : List (Int × Int)} (h : Terms w base v xs) : lenOf v = xs.length := by
  obtain ⟨a, cap, rfl, _⟩ := SRow.opened tcs_len h
  rfl
theorem terms_only {w w' : World} {base : Nat} {v : Value} {xs : List (Int × Int)} {b : Nat} (h : Terms w base v xs) (hg : w.grownBy w' (some b)) (hne : v.ownBlock ≠ some b) : Terms w' base v xs := World.ownsRow.kept h hg (.inr hne)

set_option maxRecDepth 100000 in
set_option maxHeartbeats 4000000 in
theorem i_TermsOf (l n : Int) (w : World) (he : elecB l n = true) (ht : Tab w) :
    Calls Tryd.prog 7 #[.int .i64 l, .int .i64 n] w (RTerms w (termsI (microL l n (statesN l)) 81)) := by
  obtain ⟨i0, hi, hz0, hz1, hz2⟩ := info_parts infoTerm
  obtain ⟨⟨l1, l2⟩, n1, n2⟩ := elecB_iff.1 he
  have HI := Lib.hid (And.intro hi (And.intro hz0 (And.intro hz1 hz2)))
  have LEN : Hid (∀ i, i ≤ 81 → (termsI (microL l n (statesN l)) i).length ≤ 30) := Lib.hid (fun i hi => termsI_len30 he hi)
  have FB : Hid (∀ P x y, -(P.length : Int) ≤ fT (microL l n (statesN l)) P x y ∧ fT (microL l n (statesN l)) P x y ≤ 1024) := Lib.hid (fun P x y => fT_bd l2 P x y)
  have F0 : Hid (∀ x y, cntM (microL l n (statesN l)) x y = fT (microL l n (statesN l)) [] x y) := Lib.hid (fun x y => by unfold fT strk; simp)
  clear hi hz0 hz1 hz2
  go_enter Tryd.func7, Tryd.ntmps7
  go_wp2_with (go_at_call 11; refine (i_electronsValid _ _ _).mono ?_; rintro e w' ⟨rfl, rfl⟩)
  refine (i_newMicroTable l n _ he ht).mono ?_
  rintro e w1 ⟨b, rfl, hb0, hM1, hB1⟩
  obtain ⟨xs, hxs⟩ : ∃ xs, microL l n (statesN l) = xs := ⟨_, rfl⟩
  rw [hxs] at hM1 LEN FB F0
  have HXS := Lib.hid hxs
  have M1 := Lib.hid hM1
  have B1 := Lib.hid hB1
  clear hxs hM1 hB1 he ht
  go_wp2_with fail
  go_loopw [6, 7] (fun v c wr => ∃ i : Nat, i ≤ 9 ∧ c = .int .i64 (8 - (i : Int)) ∧ Terms wr w.heap.size v (termsI xs (9 * i)) ∧ MTab wr b (1024 + 200 * (termsI xs (9 * i)).length) (fT xs (termsI xs (9 * i))) ∧ Below w.heap.size w wr) (fun _ c _ => (intOf c + 1).toNat)
  case atStart => exact ⟨0, by omega, rfl, SRow.nil _ _, M1.out.congr F0.out, B1.out⟩
  case round =>
    obtain ⟨i, hi9, rfl, hown, hM, hB⟩ := hrel
    by_cases hlt : i < 9
    · obtain ⟨wo, rfl⟩ : ∃ wo : World, wo = wr := ⟨_, rfl⟩
      have hi8 : (i : Int) ≤ 8 := by omega
      go_wp2_with fail
      go_loopw [6, 8] (fun v c wr => ∃ j : Nat, j ≤ 9 ∧ c = .int .i64 (8 - (j : Int)) ∧ Terms wr w.heap.size v (termsI xs (9 * i + j)) ∧ MTab wr b (1024 + 200 * (termsI xs (9 * i + j)).length) (fT xs (termsI xs (9 * i + j))) ∧ Below w.heap.size w wr) (fun _ c _ => (intOf c + 1).toNat)
      case atStart => exact ⟨0, by omega, rfl, hown, hM, hB⟩
      case round =>
        clear hown hM hB
        obtain ⟨j, hj9, rfl, hown, hM, hB⟩ := hrel
        by_cases hlt2 : j < 9
        · have E1 : Hid (cell81 (9 * i + j) = (8 - (i : Int), 8 - (j : Int))) := Lib.hid (by unfold cell81; rw [show (9 * i + j) / 9 = i by omega, show (9 * i + j) % 9 = j by omega])
          have LN1 := LEN.out (9 * i + j + 1) (by omega)
          have LN0 := LEN.out (9 * i + j) (by omega)
          rw [termsI_succ, E1.out, List.length_append, List.length_replicate] at LN1
          obtain ⟨fb0, fb1⟩ := FB.out (termsI xs (9 * i + j)) (8 - (j : Int)) (8 - (i : Int))
          obtain ⟨C, hC⟩ : ∃ C, fT xs (termsI xs (9 * i + j)) (8 - (j : Int)) (8 - (i : Int)) = C := ⟨_, rfl⟩
          simp only [hC] at LN1 fb0 fb1
          have HC := Lib.hid hC
          have HO := Lib.hid hown
          have HB := Lib.hid hB
          have HM := Lib.hid hM
          clear hown hB hM hC
          obtain ⟨wi, rfl⟩ : ∃ wi : World, wi = wr := ⟨_, rfl⟩
          have hj8 : (j : Int) ≤ 8 := by omega
          go_wp2_with fail
          go_loopw [6] (fun v wr => ∃ k : Nat, (k = 0 ∨ (k : Int) ≤ C) ∧ Terms wr w.heap.size v (termsI xs (9 * i + j) ++ List.replicate k (8 - (i : Int), 8 - (j : Int))) ∧ MTab wr b (1024 + 200 * (termsI xs (9 * i + j) ++ List.replicate k ((8 - (i : Int), 8 - (j : Int)) : Int × Int)).length) (fT xs (termsI xs (9 * i + j) ++ List.replicate k (8 - (i : Int), 8 - (j : Int)))) ∧ Below w.heap.size w wr) (fun v wr => 40 - lenOf v)
          case atStart => exact ⟨0, .inl rfl, by simpa using HO.out, by simpa using HM.out, HB.out⟩
          case round =>
            clear HO HB HM
            obtain ⟨k, hk, hO, hM, hB⟩ := hrel
            have hs3 := hB.size
            have hbl := hM.lt
            have FR := fT_rep (S := 8 - (i : Int)) (L := 8 - (j : Int)) (by omega) (by omega) (by omega) xs (termsI xs (9 * i + j)) k
            rw [HC.out] at FR
            have hlook := hM.look (x := 8 - (j : Int)) (y := 8 - (i : Int)) (by unfold I64; omega) (by unfold I64; omega)
            rw [FR] at hlook
            clear FR
            by_cases hlt3 : (k : Int) < C
            · clear hk
              have LEN2 : (termsI xs (9 * i + j) ++ List.replicate k ((8 - (i : Int), 8 - (j : Int)) : Int × Int)).length < 30 := by rw [List.length_append, List.length_replicate]; omega
              generalize hps : termsI xs (9 * i + j) ++ List.replicate k ((8 - (i : Int), 8 - (j : Int)) : Int × Int) = ps at hO LEN2 hM
              have HX := Lib.hid hps
              have HLO := Lib.hid (lenOf_terms hO)
              clear hps
              have hlt0 := World.ownsRow.lt hO
              have HN : Hid (u6.ownBlock ≠ some wr.heap.size) := Lib.hid (fun e => by have := hlt0 _ e; omega)
              have HAP := Lib.hid (terms_apart hO hM)
              clear hlt0
              have K0 : Blk (wr.alloc (.cells #[.int .i64 (8 - (i : Int)), .int .i64 (8 - (j : Int))] 26)) wr.heap.size #[.int .i64 (8 - (i : Int)), .int .i64 (8 - (j : Int))] := blk_new (by simp)
              have O0 : Terms (wr.alloc (.cells #[.int .i64 (8 - (i : Int)), .int .i64 (8 - (j : Int))] 26)) w.heap.size u6 ps := SRow.alloc hO _
              have M0 := hM.alloc (.cells #[.int .i64 (8 - (i : Int)), .int .i64 (8 - (j : Int))] 26)
              have B0 := bl_alloc hB (.cells #[.int .i64 (8 - (i : Int)), .int .i64 (8 - (j : Int))] 26)
              have hs0 : (wr.alloc (.cells #[.int .i64 (8 - (i : Int)), .int .i64 (8 - (j : Int))] 26)).heap.size = wr.heap.size + 1 := by simp
              clear hO hM hB
              go_upto_region 13 with fail
              generalize (wr.alloc (.cells #[.int .i64 (8 - (i : Int)), .int .i64 (8 - (j : Int))] 26)) = z at *
              have hs1 := Nat.le_of_eq hs0
              have hs2 := Nat.le_of_eq hs0.symm
              clear hs0
              obtain ⟨c0, c1, _, _⟩ := blk2 K0
              have hz : wr.heap.size < z.heap.size := by omega
              have hsz0 := B0.size
              have hbz : b < z.heap.size := M0.lt
              have HK := Lib.hid K0
              have HB := Lib.hid B0
              have HM := Lib.hid M0
              clear K0 B0 M0
              unfold Terms SRow at O0
              obtain ⟨hi, hz0, hz1, hz2⟩ := HI.out
              go_wp2_with (at_builtin; refine wpList_append_own_at _ rfl _ _ 29 rfl w.heap.size 26 i0 (.agg #[.int .i64 0, .int .i64 0]) 2 16 Tryd.underlying29 hi hz0 hz1 hz2 rfl (by decide) _ _ _ rfl (O0.alloc _) ⟨z.heap.size, 0, none⟩ 1 1 (tcs (8 - (i : Int), 8 - (j : Int))) rfl rfl ?c1 ?c2 ?c3 ?c4 ?c5 ?_)
              case c1 => exact cells_new2 _ _ _ _
              case c2 => intro u hu; simp [tcs] at hu; rcases hu with rfl | rfl <;> rfl
              case c3 => unfold maxLen; omega
              case c4 => omega
              case c5 => simp; omega
              intro v' w3 hown' hgrow _ hat
              have A1 : Terms w3 w.heap.size v' (termsI xs (9 * i + j) ++ List.replicate (k + 1) (8 - (i : Int), 8 - (j : Int))) := by rw [rep_snoc, HX.out]; exact SRow.app hown'
              have A2 : Below w.heap.size w w3 := app_below HB.out O0 hgrow (Nat.le_refl _) hsz0
              have A3 : Blk w3 wr.heap.size #[.int .i64 (8 - (i : Int)), .int .i64 (8 - (j : Int))] := app_blk HK.out hgrow HN.out
              have A5 : MTab w3 b (1024 + 200 * ps.length) (fT xs ps) := (HM.out.alloc _).kept hgrow (fun e => HAP.out e.symm)
              have A4 := terms_apart A1 A5
              obtain ⟨d0, d1, _, _⟩ := blk2 A3
              have H1 := Lib.hid A1
              have H2 := Lib.hid A2
              have H4 := Lib.hid A4
              have H5 := Lib.hid A5
              clear A1 A2 A3 A4 A5 hown' hgrow hat O0
              go_wp2_with fail
              refine (i_strike b _ _ _ _ _ (by omega) (by omega) (by omega) (by omega) H5.out (by omega) (fun x y => by have := FB.out ps x y; omega)).mono ?_
              rintro e w4 ⟨rfl, hM4, hg4⟩
              have M4 := Lib.hid hM4
              have G4 := Lib.hid hg4
              clear hM4 hg4
              go_wp2_with fail
              go_roundw
              case rel =>
                refine ⟨k + 1, .inr (by omega), terms_only H1.out G4.out H4.out, ?_, H2.out.grown G4.out H2.out.size (fun q e => by cases e; exact hb0)⟩
                rw [rep_snoc, HX.out]
                refine (M4.out.mono (by rw [List.length_append, List.length_singleton]; omega)).congr (fun x y => (fT_snoc xs ps _ _ x y).symm)
              case measure =>
                show 40 - lenOf v' < 40 - lenOf u6
                rw [lenOf_terms H1.out, HLO.out, rep_snoc, HX.out, List.length_append, List.length_singleton]
                omega
            · have hkk : C.toNat = k := by omega
              have HKK := Lib.hid hkk
              have HO := Lib.hid hO
              have HM := Lib.hid hM
              have HB := Lib.hid hB
              clear hkk hk hO hM hB
              go_wp2_with fail
              go_roundw
              case rel =>
                have e : termsI xs (9 * i + (j + 1)) = termsI xs (9 * i + j) ++ List.replicate k (8 - (i : Int), 8 - (j : Int)) := by
                  rw [← Nat.add_assoc, termsI_succ, E1.out]
                  simp only [HC.out, HKK.out]
                refine ⟨j + 1, by omega, by go_num, ?_, ?_, HB.out⟩
                · rw [e]; exact HO.out
                · rw [e]; exact HM.out
              case measure => simp [intOf]; omega
        · obtain rfl : j = 9 := by omega
          go_wp2_with fail
          go_roundw
          case rel => exact ⟨i + 1, by omega, by go_num, hown, hM, hB⟩
          case measure => simp [intOf]; omega
    · obtain rfl : i = 9 := by omega
      go_wp2_with fail
      go_ret
      exact ⟨_, rfl, by rw [HXS.out]; exact hown, hB⟩

end Go.Proofs.YtcmbilddlbejgaaDoor
