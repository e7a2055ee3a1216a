/- Contracts of TermsOf and HundTerm of the reference. -/
import Derived.Test.YtcmbilddlbejgaaDoorV
import Derived.Test.YtcmbilddlbejgaaDoorPv
import Derived.Maps.AppendAt
namespace Go.Proofs.YtcmbilddlbejgaaDoor
open Go.RowKit

theorem infoTerm : (Tryd.prog.info? 26).map (fun i => (i.zero, i.size, i.bytes)) = some (some (.agg #[.int .i64 0, .int .i64 0]), 2, 16) := by kernel_rfl

/-- The cells of a term. -/
def tcs (p : Int × Int) : List Value := [.int .i64 p.1, .int .i64 p.2]
theorem tcs_len (p : Int × Int) : (tcs p).length = 2 := rfl
def Terms (w : World) (base : Nat) (v : Value) (xs : List (Int × Int)) : Prop := SRow 26 2 tcs w base v xs

/-- The call returns a new slice of these terms. -/
def RTerms (w : World) (xs : List (Int × Int)) (e : Ending) (w' : World) : Prop := ∃ v, e = .returned v ∧ Terms w' w.heap.size v xs ∧ Below w.heap.size w w'

theorem rep_snoc {α : Type} (xs : List α) (c : Nat) (x : α) : xs ++ List.replicate (c + 1) x = (xs ++ List.replicate c x) ++ [x] := by
  rw [List.replicate_succ', List.append_assoc]

theorem app_blk {w w1 : World} {g : Nat} {row : Option Nat} {o : Obj} {cs : Array Value} (h : Blk w g cs) (hg : (w.alloc o).grownBy w1 row) (hne : row ≠ some g) : Blk w1 g cs := by
  have hl := h.lt
  obtain ⟨t, h⟩ := h
  exact ⟨t, by rw [hg.block g (by simp; omega) (fun e => hne e.symm), Below.heap_alloc w o g hl]; exact h⟩

set_option maxRecDepth 100000 in
set_option maxHeartbeats 2000000 in
theorem s_TermsOf (l n : Int) (w : World) (he : elecB l n = true) :
    Calls Tryd.prog 12 #[.int .i64 l, .int .i64 n] w (RTerms w (termsU l n 42)) := by
  obtain ⟨i0, hi, hz0, hz1, hz2⟩ := info_parts infoTerm
  obtain ⟨⟨l1, l2⟩, n1, n2⟩ := elecB_iff.1 he
  have HI := Lib.hid (And.intro hi (And.intro hz0 (And.intro hz1 hz2)))
  clear hi hz0 hz1 hz2
  go_enter Tryd.func12, Tryd.ntmps12
  go_wp2_with (go_at_call 17; refine (s_l12Ok _ _ _).mono ?_; rintro e w' ⟨rfl, rfl⟩)
  go_loopw [5, 6] (fun v c wr => ∃ i : Nat, i ≤ 6 ∧ c = .int .i64 (5 - (i : Int)) ∧ Terms wr w.heap.size v (termsU l n (7 * i)) ∧ Below w.heap.size w wr) (fun _ c _ => (intOf c + 1).toNat)
  case atStart => exact ⟨0, by omega, rfl, SRow.empty _, bl_alloc (Below.refl _ _) _⟩
  case round =>
    obtain ⟨i, hi6, rfl, hown, hB⟩ := hrel
    by_cases hlt : i < 6
    · obtain ⟨wo, rfl⟩ : ∃ wo : World, wo = wr := ⟨_, rfl⟩
      go_wp2_with fail
      go_loopw [5, 7] (fun v c wr => ∃ j : Nat, j ≤ 7 ∧ c = .int .i64 (6 - (j : Int)) ∧ Terms wr w.heap.size v (termsU l n (7 * i + j)) ∧ Below w.heap.size w wr) (fun _ c _ => (intOf c + 1).toNat)
      case atStart => exact ⟨0, by omega, rfl, hown, hB⟩
      case round =>
        clear hown hB
        obtain ⟨j, hj7, rfl, hown, hB⟩ := hrel
        by_cases hlt2 : j < 7
        · have E1 : Hid (((7 * i + j : Nat) : Int) / 7 = i ∧ ((7 * i + j : Nat) : Int) % 7 = j) := Lib.hid (by omega)
          have hT : tmB (5 - (i : Int)) (6 - (j : Int)) = true := tmB_iff.2 (by omega)
          have LEN := termsU_len l n l2 (7 * i + j)
          have CB := tcountF_bd l n (5 - (i : Int)) (6 - (j : Int)) l2
          have hs := hB.size
          have hlt0 := World.ownsRow.lt hown
          have HO := Lib.hid hown
          have HB := Lib.hid hB
          have HL := Lib.hid hlt0
          clear hown hB hlt0
          obtain ⟨wi, rfl⟩ : ∃ wi : World, wi = wr := ⟨_, rfl⟩
          go_wp2_with fail
          refine (s_TermCount _ _ _ _ _ he hT).mono ?_
          rintro e w2 ⟨rfl, hb⟩
          have K : Blk w2 wi.heap.size #[.int .i64 (5 - (i : Int)), .int .i64 (6 - (j : Int))] := blk_later hb (blk_new (by simp))
          have hO : Terms w2 w.heap.size u5 (termsU l n (7 * i + j)) := SRow.kept (SRow.alloc HO.out _) hb
          have hB2 : Below w.heap.size w w2 := btr (bl_alloc HB.out _) hb
          have HN : Hid (u5.ownBlock ≠ some wi.heap.size) := Lib.hid (fun e => by have := HL.out _ e; omega)
          clear hb
          go_wp2_with fail
          go_loopw [5, 9] (fun v c wr => ∃ k : Nat, (k = 0 ∨ (k : Int) ≤ tcountF l n (5 - (i : Int)) (6 - (j : Int))) ∧ c = .int .i64 (tcountF l n (5 - (i : Int)) (6 - (j : Int)) - (k : Int)) ∧ Terms wr w.heap.size v (termsU l n (7 * i + j) ++ List.replicate k (5 - (i : Int), 6 - (j : Int))) ∧ Blk wr wi.heap.size #[.int .i64 (5 - (i : Int)), .int .i64 (6 - (j : Int))] ∧ v.ownBlock ≠ some wi.heap.size ∧ Below w.heap.size w wr) (fun _ c _ => (intOf c).toNat)
          case atStart => exact ⟨0, .inl rfl, by simp, by simpa using hO, K, HN.out, hB2⟩
          case round =>
            clear hO K hB2 HN HO HB HL
            obtain ⟨k, hk, rfl, hO, hK, hN, hB⟩ := hrel
            have hs3 := hB.size
            have hK1 := hK.lt
            obtain ⟨c0, c1, _, _⟩ := blk2 hK
            have HK := Lib.hid hK
            have HN := Lib.hid hN
            have HB := Lib.hid hB
            have HO := Lib.hid hO
            clear hK hN hB
            by_cases hlt3 : (k : Int) < tcountF l n (5 - (i : Int)) (6 - (j : Int))
            · clear hk
              have LEN2 : (termsU l n (7 * i + j) ++ List.replicate k ((5 - (i : Int), 6 - (j : Int)) : Int × Int)).length ≤ 100000 := by rw [List.length_append, List.length_replicate]; omega
              generalize hxs : termsU l n (7 * i + j) ++ List.replicate k ((5 - (i : Int), 6 - (j : Int)) : Int × Int) = xs at hO LEN2
              have HX := Lib.hid hxs
              clear hxs
              unfold Terms SRow at hO
              obtain ⟨hi, hz0, hz1, hz2⟩ := HI.out
              go_wp2_with (at_builtin; refine wpList_append_own_at _ rfl _ _ 29 rfl w.heap.size 26 i0 (.agg #[.int .i64 0, .int .i64 0]) 2 16 Tryd.underlying29 hi hz0 hz1 hz2 rfl (by decide) _ _ _ rfl (hO.alloc _) ⟨wr.heap.size, 0, none⟩ 1 1 (tcs (5 - (i : Int), 6 - (j : Int))) rfl rfl ?c1 ?c2 ?c3 ?c4 ?c5 ?_)
              case c1 => exact cells_new2 _ _ _ _
              case c2 => intro u hu; simp [tcs] at hu; rcases hu with rfl | rfl <;> rfl
              case c3 => unfold maxLen; omega
              case c4 => omega
              case c5 => simp; omega
              intro v' w3 hown' hgrow _ hat
              have A1 : Terms w3 w.heap.size v' (termsU l n (7 * i + j) ++ List.replicate (k + 1) (5 - (i : Int), 6 - (j : Int))) := by rw [rep_snoc, HX.out]; exact SRow.app hown'
              have A2 : Below w.heap.size w w3 := app_below HB.out hO hgrow (Nat.le_refl _) hs3
              have A3 : Blk w3 wi.heap.size #[.int .i64 (5 - (i : Int)), .int .i64 (6 - (j : Int))] := app_blk HK.out hgrow HN.out
              have A4 : v'.ownBlock ≠ some wi.heap.size := by
                rcases hat with e | e
                · rw [e]; exact HN.out
                · rw [e]; intro e2; injection e2 with e2; omega
              have H1 := Lib.hid A1
              have H2 := Lib.hid A2
              have H3 := Lib.hid A3
              have H4 := Lib.hid A4
              clear A1 A2 A3 A4 hown' hgrow hat hO
              go_wp2_with fail
              go_roundw
              case rel => exact ⟨k + 1, .inr (by omega), by go_num, H1.out, H3.out, H4.out, H2.out⟩
              case measure => simp [intOf]; omega
            · have hkk : (tcountF l n (5 - (i : Int)) (6 - (j : Int))).toNat = k := by omega
              have HKK := Lib.hid hkk
              clear hkk hk hO
              go_wp2_with fail
              go_roundw
              case rel =>
                refine ⟨j + 1, by omega, by go_num, ?_, HB.out⟩
                have e : termsU l n (7 * i + (j + 1)) = termsU l n (7 * i + j) ++ List.replicate k (5 - (i : Int), 6 - (j : Int)) := by
                  rw [← Nat.add_assoc, termsU_succ, E1.out.1, E1.out.2, HKK.out]
                rw [e]; exact HO.out
              case measure => simp [intOf]; omega
        · obtain rfl : j = 7 := by omega
          go_wp2_with fail
          go_roundw
          case rel => exact ⟨i + 1, by omega, by go_num, hown, hB⟩
          case measure => simp [intOf]; omega
    · obtain rfl : i = 6 := by omega
      go_wp2_with fail
      go_ret
      exact ⟨_, rfl, hown, hB⟩

set_option maxRecDepth 100000 in
set_option maxHeartbeats 1000000 in
theorem s_TermsOf_no (l n : Int) (w : World) (he : elecB l n = false) :
    Calls Tryd.prog 12 #[.int .i64 l, .int .i64 n] w (RTerms w []) := by
  go_enter Tryd.func12, Tryd.ntmps12
  go_wp2_with (go_at_call 17; refine (s_l12Ok _ _ _).mono ?_; rintro e w' ⟨rfl, rfl⟩)
  go_ret
  exact ⟨_, rfl, SRow.empty _, bl_alloc (Below.refl _ _) _⟩

end Go.Proofs.YtcmbilddlbejgaaDoor
