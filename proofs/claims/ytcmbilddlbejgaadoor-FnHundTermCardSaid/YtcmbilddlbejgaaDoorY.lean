/- Contracts of HundTerm of both, with one result for all arguments; of l92Fill. -/
import Derived.Test.YtcmbilddlbejgaaDoorW
import Derived.Test.YtcmbilddlbejgaaDoorRk
namespace Go.Proofs.YtcmbilddlbejgaaDoor
open Go.RowKit

/-- What HundTerm returns. -/
def hundR (l n : Int) : Int × Int × Bool := if elecB l n = true then ((hundS l n.toNat).1, (hundS l n.toNat).2, true) else (0, 0, false)
theorem hundR_yes {l n S L : Int} {o : Bool} (he : elecB l n = true) (h : hundR l n = (S, L, o)) : S = (hundS l n.toNat).1 ∧ L = (hundS l n.toNat).2 ∧ o = true := by
  unfold hundR at h
  rw [if_pos he] at h
  simp only [Prod.mk.injEq] at h
  exact ⟨h.1.symm, h.2.1.symm, h.2.2.symm⟩
theorem hundR_no {l n S L : Int} {o : Bool} (he : elecB l n = false) (h : hundR l n = (S, L, o)) : S = 0 ∧ L = 0 ∧ o = false := by
  unfold hundR at h
  rw [if_neg (by simp [he])] at h
  simp only [Prod.mk.injEq] at h
  exact ⟨h.1.symm, h.2.1.symm, h.2.2.symm⟩

theorem i_HundTerm (l n S L : Int) (o : Bool) (w : World) (h : Hid (hundR l n = (S, L, o))) :
    Calls Tryd.prog 5 #[.int .i64 l, .int .i64 n] w fun e w' => e = .returned (.tuple #[.agg #[.int .i64 S, .int .i64 L], .bool o]) ∧ Below w.heap.size w w' := by
  cases he : elecB l n
  · obtain ⟨rfl, rfl, rfl⟩ := hundR_no he h.out
    exact i_HundTerm_no l n w he
  · obtain ⟨rfl, rfl, rfl⟩ := hundR_yes he h.out
    exact i_HundTerm_yes l n w he

set_option maxRecDepth 100000 in
set_option maxHeartbeats 1000000 in
theorem s_HundTerm (l n S L : Int) (o : Bool) (w : World) (h : Hid (hundR l n = (S, L, o))) :
    Calls Tryd.prog 6 #[.int .i64 l, .int .i64 n] w fun e w' => e = .returned (.tuple #[.agg #[.int .i64 S, .int .i64 L], .bool o]) ∧ Below w.heap.size w w' := by
  cases he : elecB l n
  · obtain ⟨rfl, rfl, rfl⟩ := hundR_no he h.out
    clear h
    go_enter Tryd.func6, Tryd.ntmps6
    go_wp2_with fail
    refine (s_TermsOf_no _ _ _ he).mono ?_
    rintro e w1 ⟨v, rfl, hv, hb⟩
    obtain ⟨a, cap, rfl, hm, hc⟩ := SRow.opened tcs_len hv
    have K : Blk w1 w.heap.size #[.int .i64 0, .int .i64 0] := blk_later hb (blk_new (by simp))
    have HK := Lib.hid K
    have HB : Hid (Below w.heap.size w w1) := Lib.hid (btr (bl_alloc (Below.refl _ _) _) hb)
    obtain ⟨k0, k1, f0, f1⟩ := blk2 K
    clear hv hc hb K hm
    go_wp2_with fail
    refine bodyPost_ret (v := .tuple #[.agg #[.int .i64 0, .int .i64 0], .bool false]) ?_ rfl ⟨rfl, bl_set (bl_set HB.out (by simp) _) (by simp) _⟩
    have KR : Blk _ w.heap.size #[.int .i64 0, .int .i64 0] := blk_set (blk_set HK.out 0 (.int .i64 0)) 1 (.int .i64 0)
    obtain ⟨r0, r1, _, _⟩ := blk2 KR
    simp [results, Tryd.results6, go_sem, r0, r1]
  · obtain ⟨hS, hL, rfl⟩ := hundR_yes he h.out
    clear h
    have hf := hund_first l n he
    rw [show hundS l n.toNat = (S, L) by rw [hS, hL]] at hf
    have HF := Lib.hid hf
    clear hf hS hL
    go_enter Tryd.func6, Tryd.ntmps6
    go_wp2_with fail
    refine (s_TermsOf _ _ _ he).mono ?_
    rintro e w1 ⟨v, rfl, hv, hb⟩
    obtain ⟨a, cap, rfl, hm, hc⟩ := SRow.opened tcs_len hv
    clear hv
    have hf := HF.out
    clear HF
    generalize termsU l n 42 = xs at *
    rcases hc with rfl | ⟨g, rfl, hg1, hg2, hc⟩
    · simp at hf
    obtain ⟨p, ps, rfl⟩ : ∃ p ps, xs = p :: ps := by
      cases xs with
      | nil => simp at hf
      | cons p ps => exact ⟨p, ps, rfl⟩
    obtain rfl : p = (S, L) := by simpa using hf
    have c0 := hc 0 0 _ _ rfl rfl
    have c1 := hc 0 1 _ _ rfl rfl
    simp only [Nat.zero_mul, Nat.zero_add] at c0 c1
    clear hc hf
    rw [List.length_cons] at hm ⊢
    generalize ps.length = m at *
    unfold maxLen at hm
    have K : Blk w1 w.heap.size #[.int .i64 0, .int .i64 0] := blk_later hb (blk_new (by simp))
    have HK := Lib.hid K
    have HB : Hid (Below w.heap.size w w1) := Lib.hid (btr (bl_alloc (Below.refl _ _) _) hb)
    obtain ⟨k0, k1, f0, f1⟩ := blk2 K
    have hz : (((m + 1 : Nat) : Int) == 0) = false := by simp; omega
    have hz2 : (0 : Int) < ((m + 1 : Nat) : Int) := by omega
    clear hb K
    go_wp2_with fail
    refine bodyPost_ret (v := .tuple #[.agg #[.int .i64 S, .int .i64 L], .bool true]) ?_ rfl ⟨rfl, bl_set (bl_set HB.out (by simp) _) (by simp) _⟩
    have KR : Blk _ w.heap.size #[.int .i64 S, .int .i64 L] := blk_set (blk_set HK.out 0 (.int .i64 S)) 1 (.int .i64 L)
    obtain ⟨r0, r1, _, _⟩ := blk2 KR
    simp [results, Tryd.results6, go_sem, r0, r1]

end Go.Proofs.YtcmbilddlbejgaaDoor
