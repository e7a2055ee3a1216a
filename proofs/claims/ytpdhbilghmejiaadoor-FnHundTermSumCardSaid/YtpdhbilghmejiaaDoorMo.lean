/- The contract of impl.MicroOrbit. -/
import Derived.Test.YtpdhbilghmejiaaDoorMi
namespace Go.Proofs.YtpdhbilghmejiaaDoor
open Go.RowKit
set_option linter.unusedVariables false

/-- The greatest orbital sum of the first k with this spin. -/
def orbS (s b : Int) (p : Int × Int) : Int := if p.2 = s then (if b < p.1 then p.1 else b) else b
def orbL (s : Int) (xs : List (Int × Int)) (k : Nat) : Int := (xs.take k).foldl (orbS s) (-1)
theorem orbL_succ {s : Int} {xs : List (Int × Int)} {k : Nat} {p : Int × Int} (h : xs[k]? = some p) : orbL s xs (k + 1) = orbS s (orbL s xs k) p := by
  obtain ⟨hk, rfl⟩ := List.getElem?_eq_some_iff.1 h
  rw [orbL, List.take_succ_eq_append_getElem hk, List.foldl_append]
  rfl
def orbR (l n s : Int) : Int := orbL s (microL l n (statesN l)) (microL l n (statesN l)).length
theorem scs_len (p : Int × Int) : (scs p).length = 2 := rfl

set_option maxRecDepth 100000 in
set_option maxHeartbeats 2000000 in
theorem i_MicroOrbit (l n s : Int) (w : World) (he : elecB l n = true) (ht : Tab w) :
    Calls Tryd.prog 8 #[.int .i64 l, .int .i64 n, .int .i64 s] w fun e w' => e = .returned (.int .i64 (orbR l n s)) ∧ Below w.heap.size w w' := by
  go_enter Tryd.func8, Tryd.ntmps8
  go_wp2_with (go_at_call 13; refine (i_electronsValid _ _ _).mono ?_; rintro e w' ⟨rfl, rfl⟩)
  refine (i_microstates l n _ he ht).mono ?_
  rintro e w4 ⟨v, rfl, hvv, hb4⟩
  unfold Micros at hvv
  obtain ⟨a, cap, rfl, hmx, hc⟩ := SRow.opened scs_len hvv
  have HR : Hid (orbR l n s = orbL s (microL l n (statesN l)) (microL l n (statesN l)).length) := Lib.hid rfl
  generalize microL l n (statesN l) = xs at *
  have HC := Lib.hid hc
  have w4z := hb4.size
  have w4B := Lib.hid hb4
  clear hc hvv he hb4 ht
  unfold maxLen at hmx
  go_wp2_with fail
  go_loopw [7, 19] (fun b c wr => ∃ k : Nat, k ≤ xs.length ∧ c = .int .i64 (k : Int) ∧ b = .int .i64 (orbL s xs k) ∧ Below w4.heap.size w4 wr) (fun _ c _ => xs.length - (intOf c).toNat)
  case atStart => exact ⟨0, Nat.zero_le _, rfl, rfl, Below.refl _ _⟩
  case round =>
    obtain ⟨k, hk, rfl, rfl, hB⟩ := hrel
    have HBr := Lib.hid hB
    have hsr := hB.size
    by_cases hlt : k < xs.length
    · rcases HC.out with h | ⟨g, rfl, hg1, hg2, hc⟩
      · subst h; simp at hlt
      obtain ⟨⟨o, t⟩, hx⟩ : ∃ p, xs[k]? = some p := ⟨xs[k], List.getElem?_eq_getElem hlt⟩
      have OS := Lib.hid (orbL_succ (s := s) hx)
      have a0 := hc k 0 _ _ hx rfl
      have a1 := hc k 1 _ _ hx rfl
      simp only [Nat.add_zero] at a0 a1
      have b0 : wr.cell? ⟨g, k * 2, none⟩ = some (.int .i64 o) := by rw [hB.cell (p := ⟨g, k * 2, none⟩) hg2]; exact a0
      have b1 : wr.cell? ⟨g, k * 2 + 1, none⟩ = some (.int .i64 t) := by rw [hB.cell (p := ⟨g, k * 2 + 1, none⟩) hg2]; exact a1
      clear a0 a1 hc hx hB
      generalize orbL s xs k = b at *
      by_cases hs : t = s
      · rcases Int.lt_or_le b o with hbo | hbo
        · have e : orbS s b (o, t) = o := by unfold orbS; rw [if_pos hs, if_pos hbo]
          rw [e] at OS
          go_wp2_with fail
          go_roundw
          case rel => exact ⟨k + 1, by omega, by go_num, by rw [OS.out], bl_alloc HBr.out _⟩
          case measure => simp [intOf]; omega
        · have e : orbS s b (o, t) = b := by unfold orbS; rw [if_pos hs, if_neg (by omega)]
          rw [e] at OS
          go_wp2_with fail
          go_roundw
          case rel => exact ⟨k + 1, by omega, by go_num, by rw [OS.out], bl_alloc HBr.out _⟩
          case measure => simp [intOf]; omega
      · have e : orbS s b (o, t) = b := by unfold orbS; rw [if_neg hs]
        rw [e] at OS
        go_wp2_with fail
        go_roundw
        case rel => exact ⟨k + 1, by omega, by go_num, by rw [OS.out], bl_alloc HBr.out _⟩
        case measure => simp [intOf]; omega
    · obtain rfl : k = xs.length := by omega
      go_wp2_with fail
      go_ret
      exact ⟨ret_int HR.out.symm, btr w4B.out hB⟩

end Go.Proofs.YtpdhbilghmejiaaDoor
