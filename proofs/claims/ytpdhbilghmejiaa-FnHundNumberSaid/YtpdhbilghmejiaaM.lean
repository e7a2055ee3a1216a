/- Contracts of HundLevel, of the program and of the reference. -/
import Derived.Test.YtpdhbilghmejiaaJ
import Derived.Test.YtpdhbilghmejiaaY
namespace Go.Proofs.Ytpdhbilghmejiaa
open Go.RowKit
set_option linter.unusedVariables false

theorem stepL_get (lo : Int) (k i : Nat) (h : i < k) : (stepL lo k)[i]? = some (lo + 2 * (i : Int)) := by
  simp [stepL, List.getElem?_map, List.getElem?_range h]

theorem lvls_form {S L : Int} (h : tmB S L = true) : ∃ m : Nat, (m : Int) = min (2 * L) S ∧ (lvlsL S L).length = m + 1 ∧ (lvlsL S L)[0]? = some (S, L, absI (2 * L - S)) ∧ (lvlsL S L)[m]? = some (S, L, 2 * L + S) := by
  obtain ⟨⟨h1, h2⟩, h3, h4⟩ := tmB_iff.1 h
  have e : lvlsL S L = (stepL (absI (2 * L - S)) ((min (2 * L) S).toNat + 1)).map (fun j => (S, L, j)) := by
    have : coupledOk (2 * L) S = true := by simp [coupledOk, inB]; omega
    rw [lvlsL, if_pos h, coupledL, if_pos this]
    congr 2
    omega
  refine ⟨(min (2 * L) S).toNat, by omega, by rw [e, List.length_map, stepL_length], ?_, ?_⟩
  · rw [e, List.getElem?_map, stepL_get _ _ _ (by omega)]
    simp
  · rw [e, List.getElem?_map, stepL_get _ _ _ (by omega)]
    simp only [Option.map_some, Option.some.injEq, Prod.mk.injEq, true_and]
    unfold absI
    split <;> omega

/-- What HundLevel returns. -/
def hlvR (l n : Int) : Int × Int × Int × Bool :=
  if elecB l n = true then ((hundS l n.toNat).1, (hundS l n.toNat).2, (if n ≤ 2 * l + 1 then absI (2 * (hundS l n.toNat).2 - (hundS l n.toNat).1) else 2 * (hundS l n.toNat).2 + (hundS l n.toNat).1), true) else (0, 0, 0, false)
theorem hlvR_yes {l n S L J : Int} {o : Bool} (he : elecB l n = true) (h : hlvR l n = (S, L, J, o)) : hundR l n = (S, L, true) ∧ J = (if n ≤ 2 * l + 1 then absI (2 * L - S) else 2 * L + S) ∧ o = true ∧ tmB S L = true := by
  have hb := hund_bd l n he
  unfold hlvR at h
  rw [if_pos he] at h
  simp only [Prod.mk.injEq] at h
  obtain ⟨rfl, rfl, rfl, rfl⟩ := h
  exact ⟨by rw [hundR, if_pos he], rfl, rfl, tmB_iff.2 (by omega)⟩
theorem hlvR_no {l n S L J : Int} {o : Bool} (he : elecB l n = false) (h : hlvR l n = (S, L, J, o)) : S = 0 ∧ L = 0 ∧ J = 0 ∧ o = false ∧ hundR l n = (0, 0, false) := by
  unfold hlvR at h
  rw [if_neg (by simp [he])] at h
  simp only [Prod.mk.injEq] at h
  exact ⟨h.1.symm, h.2.1.symm, h.2.2.1.symm, h.2.2.2.symm, by rw [hundR, if_neg (by simp [he])]⟩

set_option maxRecDepth 100000 in
set_option maxHeartbeats 1000000 in
theorem i_HundLevel (l n S L J : Int) (o : Bool) (w : World) (h : Hid (hlvR l n = (S, L, J, o))) :
    Calls Try.prog 17 #[.int .i64 l, .int .i64 n] w fun e w' => e = .returned (.tuple #[.agg #[.int .i64 S, .int .i64 L, .int .i64 J], .bool o]) ∧ Below w.heap.size w w' := by
  cases he : elecB l n
  · obtain ⟨rfl, rfl, rfl, rfl, hX⟩ := hlvR_no he h.out
    have HX := Lib.hid hX
    clear h hX
    go_enter Try.func17, Try.ntmps17
    go_wp2_with fail
    refine (i_HundTerm _ _ _ _ _ _ HX).mono ?_
    rintro e w1 ⟨rfl, hb⟩
    have K : Blk w1 w.heap.size #[.int .i64 0, .int .i64 0, .int .i64 0] := blk_later hb (blk_new (by simp))
    have HK := Lib.hid K
    have hlt := K.lt
    have HB : Hid (Below w.heap.size w w1) := Lib.hid (btr (bl_alloc (Below.refl _ _) _) hb)
    obtain ⟨k0, k1, k2, f0, f1, f2⟩ := blk3 K
    clear hb K
    go_wp2_with fail
    refine bodyPost_ret (v := .tuple #[.agg #[.int .i64 0, .int .i64 0, .int .i64 0], .bool false]) ?_ rfl ⟨rfl, bl_alloc (bl_set (bl_set (bl_set HB.out (by simp) _) (by simp) _) (by simp) _) _⟩
    have KR : Blk _ w.heap.size #[.int .i64 0, .int .i64 0, .int .i64 0] := blk_alloc (blk_set (blk_set (blk_set HK.out 0 (.int .i64 0)) 1 (.int .i64 0)) 2 (.int .i64 0)) (.cells #[.int .i64 0, .int .i64 0] 23)
    obtain ⟨r0, r1, r2, _, _, _⟩ := blk3 KR
    simp [results, Try.results17, go_sem, r0, r1, r2]
  · obtain ⟨hX, hJ, rfl, ht⟩ := hlvR_yes he h.out
    have hn := elecB_iff.1 he
    have HX := Lib.hid hX
    have HJ := Lib.hid hJ
    clear h hX hJ
    obtain ⟨m, hm, hlen, h0, h1⟩ := lvls_form ht
    have HF := Lib.hid (And.intro hlen (And.intro h0 h1))
    have hb8 := tmB_iff.1 ht
    have hm8 : m ≤ 8 := by omega
    clear hm hlen h0 h1
    go_enter Try.func17, Try.ntmps17
    go_wp2_with fail
    refine (i_HundTerm _ _ _ _ _ _ HX).mono ?_
    rintro e w1 ⟨rfl, hb⟩
    have K : Blk w1 w.heap.size #[.int .i64 0, .int .i64 0, .int .i64 0] := blk_later hb (blk_new (by simp))
    have HK := Lib.hid K
    have HB : Hid (Below w.heap.size w w1) := Lib.hid (btr (bl_alloc (Below.refl _ _) _) hb)
    clear hb K
    go_wp2_with fail
    refine (i_LevelsOf _ _ _).mono ?_
    rintro e w2 ⟨v, rfl, hv, hb⟩
    obtain ⟨a, cap, rfl, hmx, hc⟩ := SRow.opened lcs_len hv
    obtain ⟨hlen, h0, h1⟩ := HF.out
    clear hv HF
    rw [hlen] at hmx ⊢
    rcases hc with hc | ⟨g, rfl, hg1, hg2, hc⟩
    · rw [hc] at hlen; simp at hlen
    have a0 := hc 0 0 _ _ h0 rfl
    have a1 := hc 0 1 _ _ h0 rfl
    have a2 := hc 0 2 _ _ h0 rfl
    have b0 := hc m 0 _ _ h1 rfl
    have b1 := hc m 1 _ _ h1 rfl
    have b2 := hc m 2 _ _ h1 rfl
    simp only [Nat.zero_mul, Nat.zero_add, Nat.add_zero] at a0 a1 a2 b0 b1 b2
    clear hc h0 h1 hlen
    have K : Blk w2 w.heap.size #[.int .i64 0, .int .i64 0, .int .i64 0] := blk_later hb (blk_alloc HK.out _)
    have HK2 := Lib.hid K
    have HB2 : Hid (Below w.heap.size w w2) := Lib.hid (btr (bl_alloc HB.out _) hb)
    obtain ⟨k0, k1, k2, f0, f1, f2⟩ := blk3 K
    clear hb K HK HB hmx
    by_cases hh : n ≤ 2 * l + 1
    · obtain rfl : J = absI (2 * L - S) := by rw [HJ.out, if_pos hh]
      clear HJ
      have z1 : (0 : Int) < ((m + 1 : Nat) : Int) := by omega
      go_wp2_with fail
      refine bodyPost_ret (v := .tuple #[.agg #[.int .i64 S, .int .i64 L, .int .i64 (absI (2 * L - S))], .bool true]) ?_ rfl ⟨rfl, bl_set (bl_set (bl_set HB2.out (by simp) _) (by simp) _) (by simp) _⟩
      have KR : Blk _ w.heap.size #[.int .i64 S, .int .i64 L, .int .i64 (absI (2 * L - S))] := blk_set (blk_set (blk_set HK2.out 0 (.int .i64 S)) 1 (.int .i64 L)) 2 (.int .i64 (absI (2 * L - S)))
      obtain ⟨r0, r1, r2, _, _, _⟩ := blk3 KR
      simp [results, Try.results17, go_sem, r0, r1, r2]
    · obtain rfl : J = 2 * L + S := by rw [HJ.out, if_neg hh]
      clear HJ
      go_wp2_with fail
      refine bodyPost_ret (v := .tuple #[.agg #[.int .i64 S, .int .i64 L, .int .i64 (2 * L + S)], .bool true]) ?_ rfl ⟨rfl, bl_set (bl_set (bl_set HB2.out (by simp) _) (by simp) _) (by simp) _⟩
      have KR : Blk _ w.heap.size #[.int .i64 S, .int .i64 L, .int .i64 (2 * L + S)] := blk_set (blk_set (blk_set HK2.out 0 (.int .i64 S)) 1 (.int .i64 L)) 2 (.int .i64 (2 * L + S))
      obtain ⟨r0, r1, r2, _, _, _⟩ := blk3 KR
      simp [results, Try.results17, go_sem, r0, r1, r2]

set_option maxRecDepth 100000 in
set_option maxHeartbeats 1000000 in
theorem s_HundLevel (l n S L J : Int) (o : Bool) (w : World) (h : Hid (hlvR l n = (S, L, J, o))) :
    Calls Try.prog 16 #[.int .i64 l, .int .i64 n] w fun e w' => e = .returned (.tuple #[.agg #[.int .i64 S, .int .i64 L, .int .i64 J], .bool o]) ∧ Below w.heap.size w w' := by
  cases he : elecB l n
  · obtain ⟨rfl, rfl, rfl, rfl, hX⟩ := hlvR_no he h.out
    have HX := Lib.hid hX
    clear h hX
    go_enter Try.func16, Try.ntmps16
    go_wp2_with fail
    refine (s_HundTerm _ _ _ _ _ _ HX).mono ?_
    rintro e w1 ⟨rfl, hb⟩
    have K : Blk w1 w.heap.size #[.int .i64 0, .int .i64 0, .int .i64 0] := blk_later hb (blk_new (by simp))
    have HK := Lib.hid K
    have hlt := K.lt
    have HB : Hid (Below w.heap.size w w1) := Lib.hid (btr (bl_alloc (Below.refl _ _) _) hb)
    obtain ⟨k0, k1, k2, f0, f1, f2⟩ := blk3 K
    clear hb K
    go_wp2_with fail
    refine bodyPost_ret (v := .tuple #[.agg #[.int .i64 0, .int .i64 0, .int .i64 0], .bool false]) ?_ rfl ⟨rfl, bl_alloc (bl_set (bl_set (bl_set HB.out (by simp) _) (by simp) _) (by simp) _) _⟩
    have KR : Blk _ w.heap.size #[.int .i64 0, .int .i64 0, .int .i64 0] := blk_alloc (blk_set (blk_set (blk_set HK.out 0 (.int .i64 0)) 1 (.int .i64 0)) 2 (.int .i64 0)) (.cells #[.int .i64 0, .int .i64 0] 23)
    obtain ⟨r0, r1, r2, _, _, _⟩ := blk3 KR
    simp [results, Try.results16, go_sem, r0, r1, r2]
  · obtain ⟨hX, hJ, rfl, ht⟩ := hlvR_yes he h.out
    have hn := elecB_iff.1 he
    have HX := Lib.hid hX
    have HJ := Lib.hid hJ
    clear h hX hJ
    obtain ⟨m, hm, hlen, h0, h1⟩ := lvls_form ht
    have HF := Lib.hid (And.intro hlen (And.intro h0 h1))
    have hb8 := tmB_iff.1 ht
    have hm8 : m ≤ 8 := by omega
    clear hm hlen h0 h1
    go_enter Try.func16, Try.ntmps16
    go_wp2_with fail
    refine (s_HundTerm _ _ _ _ _ _ HX).mono ?_
    rintro e w1 ⟨rfl, hb⟩
    have K : Blk w1 w.heap.size #[.int .i64 0, .int .i64 0, .int .i64 0] := blk_later hb (blk_new (by simp))
    have HK := Lib.hid K
    have HB : Hid (Below w.heap.size w w1) := Lib.hid (btr (bl_alloc (Below.refl _ _) _) hb)
    clear hb K
    go_wp2_with fail
    refine (s_LevelsOf _ _ _).mono ?_
    rintro e w2 ⟨v, rfl, hv, hb⟩
    obtain ⟨a, cap, rfl, hmx, hc⟩ := SRow.opened lcs_len hv
    obtain ⟨hlen, h0, h1⟩ := HF.out
    clear hv HF
    rw [hlen] at hmx ⊢
    rcases hc with hc | ⟨g, rfl, hg1, hg2, hc⟩
    · rw [hc] at hlen; simp at hlen
    have a0 := hc 0 0 _ _ h0 rfl
    have a1 := hc 0 1 _ _ h0 rfl
    have a2 := hc 0 2 _ _ h0 rfl
    have b0 := hc m 0 _ _ h1 rfl
    have b1 := hc m 1 _ _ h1 rfl
    have b2 := hc m 2 _ _ h1 rfl
    simp only [Nat.zero_mul, Nat.zero_add, Nat.add_zero] at a0 a1 a2 b0 b1 b2
    clear hc h0 h1 hlen
    have K : Blk w2 w.heap.size #[.int .i64 0, .int .i64 0, .int .i64 0] := blk_later hb (blk_alloc HK.out _)
    have HK2 := Lib.hid K
    have HB2 : Hid (Below w.heap.size w w2) := Lib.hid (btr (bl_alloc HB.out _) hb)
    obtain ⟨k0, k1, k2, f0, f1, f2⟩ := blk3 K
    clear hb K HK HB hmx
    by_cases hh : n ≤ 2 * l + 1
    · obtain rfl : J = absI (2 * L - S) := by rw [HJ.out, if_pos hh]
      clear HJ
      have z1 : (0 : Int) < ((m + 1 : Nat) : Int) := by omega
      go_wp2_with fail
      refine bodyPost_ret (v := .tuple #[.agg #[.int .i64 S, .int .i64 L, .int .i64 (absI (2 * L - S))], .bool true]) ?_ rfl ⟨rfl, bl_set (bl_set (bl_set HB2.out (by simp) _) (by simp) _) (by simp) _⟩
      have KR : Blk _ w.heap.size #[.int .i64 S, .int .i64 L, .int .i64 (absI (2 * L - S))] := blk_set (blk_set (blk_set HK2.out 0 (.int .i64 S)) 1 (.int .i64 L)) 2 (.int .i64 (absI (2 * L - S)))
      obtain ⟨r0, r1, r2, _, _, _⟩ := blk3 KR
      simp [results, Try.results16, go_sem, r0, r1, r2]
    · obtain rfl : J = 2 * L + S := by rw [HJ.out, if_neg hh]
      clear HJ
      go_wp2_with fail
      refine bodyPost_ret (v := .tuple #[.agg #[.int .i64 S, .int .i64 L, .int .i64 (2 * L + S)], .bool true]) ?_ rfl ⟨rfl, bl_set (bl_set (bl_set HB2.out (by simp) _) (by simp) _) (by simp) _⟩
      have KR : Blk _ w.heap.size #[.int .i64 S, .int .i64 L, .int .i64 (2 * L + S)] := blk_set (blk_set (blk_set HK2.out 0 (.int .i64 S)) 1 (.int .i64 L)) 2 (.int .i64 (2 * L + S))
      obtain ⟨r0, r1, r2, _, _, _⟩ := blk3 KR
      simp [results, Try.results16, go_sem, r0, r1, r2]

end Go.Proofs.Ytpdhbilghmejiaa
