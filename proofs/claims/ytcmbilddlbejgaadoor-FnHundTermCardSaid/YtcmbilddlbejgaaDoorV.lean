/- Contracts of TermCount of the reference and of HundTerm of the program. -/
import Derived.Test.YtcmbilddlbejgaaDoorU
namespace Go.Proofs.YtcmbilddlbejgaaDoor
open Go.RowKit

/-- A callee that leaves the world alone, inside a quiet region. -/
theorem quietL {P : Program} {f : FuncId} {args : Array Value} {w : World} {n : Nat} {v : Value}
    (h : Calls P f args (w.drewN n) fun e w' => e = .returned v ∧ w.drewN n = w') : Calls P f args (w.drewN n) fun e w'' => e = .returned v ∧ ∃ m, w'' = w.drewN m :=
  h.mono fun _ _ ⟨he, hm⟩ => ⟨he, n, hm.symm⟩

set_option maxRecDepth 100000 in
set_option maxHeartbeats 1000000 in
theorem s_TermCount (l n S L : Int) (w : World) (he : elecB l n = true) (ht : tmB S L = true) :
    Calls Tryd.prog 18 #[.int .i64 l, .int .i64 n, .agg #[.int .i64 S, .int .i64 L]] w fun e w' => e = .returned (.int .i64 (tcountF l n S L)) ∧ Below w.heap.size w w' := by
  obtain ⟨⟨l1, l2⟩, n1, n2⟩ := elecB_iff.1 he
  obtain ⟨⟨S1, S2⟩, L1, L2⟩ := tmB_iff.1 ht
  have h1 := microF_bd l n L S l2
  have h2 := microF_bd l n (L + 1) S l2
  have h3 := microF_bd l n L (S + 2) l2
  have h4 := microF_bd l n (L + 1) (S + 2) l2
  go_enter Tryd.func18, Tryd.ntmps18
  go_wp2_with fail
  refine (s_TermValid _ _ _).mono ?_
  rintro e w1 ⟨rfl, hb1⟩
  have K : Blk w1 w.heap.size #[.int .i64 S, .int .i64 L] := blk_later hb1 (blk_new (by simp))
  obtain ⟨c0, c1, _, _⟩ := blk2 K
  have hB : Below w.heap.size w w1 := btr (bl_alloc (Below.refl _ _) _) hb1
  have HK := Lib.hid K
  have HB := Lib.hid hB
  clear K hB hb1
  rw [ht]
  go_wp2_with (go_at_call 17; refine (s_l12Ok _ _ _).mono ?_; rintro e w' ⟨rfl, rfl⟩)
  have x1 : IntKind.i64.wrap (L + 1) = L + 1 := IntWalk.i64_in _ (by omega)
  have x2 : IntKind.i64.wrap (microF l n L S - microF l n (L + 1) S) = microF l n L S - microF l n (L + 1) S := IntWalk.i64_in _ (by omega)
  go_quiet ((go_at_call 23; exact quietL (s_MicroCount _ _ _ _ _ he)))
  clear x1 x2
  go_wp2_with fail
  have K2 : Blk (w1.drewN nq) w.heap.size #[.int .i64 S, .int .i64 L] := blk_drewN HK.out _
  have B2 : Below w.heap.size w (w1.drewN nq) := bl_drewN HB.out _
  generalize w1.drewN nq = w2 at *
  obtain ⟨d0, d1, _, _⟩ := blk2 K2
  have HB2 := Lib.hid B2
  clear K2 B2
  have x1 : IntKind.i64.wrap (L + 1) = L + 1 := IntWalk.i64_in _ (by omega)
  have x3 : IntKind.i64.wrap (S + 2) = S + 2 := IntWalk.i64_in _ (by omega)
  have x2 : IntKind.i64.wrap (microF l n L S - microF l n (L + 1) S - microF l n L (S + 2)) = microF l n L S - microF l n (L + 1) S - microF l n L (S + 2) := IntWalk.i64_in _ (by omega)
  have x4 : IntKind.i64.wrap (microF l n L S - microF l n (L + 1) S - microF l n L (S + 2) + microF l n (L + 1) (S + 2)) = microF l n L S - microF l n (L + 1) S - microF l n L (S + 2) + microF l n (L + 1) (S + 2) := IntWalk.i64_in _ (by omega)
  go_quiet ((go_at_call 23; exact quietL (s_MicroCount _ _ _ _ _ he)))
  go_wp2_with fail
  go_ret
  exact ⟨ret_int rfl, bl_drewN HB2.out _⟩

set_option maxRecDepth 100000 in
set_option maxHeartbeats 1000000 in
theorem i_HundTerm_no (l n : Int) (w : World) (he : elecB l n = false) :
    Calls Tryd.prog 5 #[.int .i64 l, .int .i64 n] w fun e w' => e = .returned (.tuple #[.agg #[.int .i64 0, .int .i64 0], .bool false]) ∧ Below w.heap.size w w' := by
  go_enter Tryd.func5, Tryd.ntmps5
  go_wp2_with (go_at_call 11; refine (i_electronsValid _ _ _).mono ?_; rintro e w' ⟨rfl, rfl⟩)
  refine bodyPost_ret (v := .tuple #[.agg #[.int .i64 0, .int .i64 0], .bool false]) (by simp [results, Tryd.results5, go_sem]) rfl ⟨rfl, ?_⟩
  exact bl_alloc (Below.refl _ _) _

set_option maxRecDepth 100000 in
set_option maxHeartbeats 1000000 in
theorem i_HundTerm_yes (l n : Int) (w : World) (he : elecB l n = true) :
    Calls Tryd.prog 5 #[.int .i64 l, .int .i64 n] w fun e w' => e = .returned (.tuple #[.agg #[.int .i64 (hundS l n.toNat).1, .int .i64 (hundS l n.toNat).2], .bool true]) ∧ Below w.heap.size w w' := by
  obtain ⟨⟨l1, l2⟩, n1, n2⟩ := elecB_iff.1 he
  obtain ⟨N, rfl⟩ := Int.eq_ofNat_of_zero_le n1
  have HH := Lib.hid (hundS_bd l l1 l2)
  go_enter Tryd.func5, Tryd.ntmps5
  go_wp2_with (go_at_call 11; refine (i_electronsValid _ _ _).mono ?_; rintro e w' ⟨rfl, rfl⟩)
  go_loopw [14] (fun c wr => ∃ k : Nat, k ≤ N ∧ c = .int .i64 k ∧ Blk wr (w.heap.size + 1) #[.int .i64 (hundS l k).1, .int .i64 (hundS l k).2] ∧ Blk wr w.heap.size #[.int .i64 0, .int .i64 0] ∧ Below w.heap.size w wr) (fun c _ => N - (intOf c).toNat)
  case atStart => exact ⟨0, Nat.zero_le _, rfl, blk_new (by simp), blk_alloc (blk_new (by simp)) _, bl_alloc (bl_alloc (Below.refl _ _) _) _⟩
  case round =>
    obtain ⟨k, hk, rfl, hK, hR, hB⟩ := hrel
    have b := HH.out k
    have hs := hB.size
    have HK := Lib.hid hK
    have HR := Lib.hid hR
    have HB := Lib.hid hB
    obtain ⟨c0, c1, f0, f1⟩ := blk2 hK
    obtain ⟨q0, q1, g0, g1⟩ := blk2 hR
    clear hK hR hB
    by_cases hlt : k < N
    · have m1 : 0 ≤ (k : Int) % (2 * l + 1) := Int.emod_nonneg _ (by omega)
      have m2 : (k : Int) % (2 * l + 1) < 2 * l + 1 := Int.emod_lt_of_pos _ (by omega)
      have HS : Hid (hundS l (k + 1) = ((hundS l k).1 + (if (k : Int) ≤ 2 * l then 1 else -1), (hundS l k).2 + (l - (k : Int) % (2 * l + 1)))) := Lib.hid rfl
      generalize (hundS l k).1 = s at *
      generalize (hundS l k).2 = t at *
      by_cases hh : (k : Int) ≤ 2 * l
      · go_wp2_with fail
        have K2 : Blk (wr.setCell ⟨w.heap.size + 1, 0, none⟩ (.int .i64 (s + 1))) (w.heap.size + 1) #[.int .i64 (s + 1), .int .i64 t] := blk_set HK.out 0 _
        have R2 : Blk (wr.setCell ⟨w.heap.size + 1, 0, none⟩ (.int .i64 (s + 1))) w.heap.size #[.int .i64 0, .int .i64 0] := blk_other HR.out (by simp)
        have B2 : Below w.heap.size w (wr.setCell ⟨w.heap.size + 1, 0, none⟩ (.int .i64 (s + 1))) := bl_set HB.out (by simp) _
        generalize wr.setCell ⟨w.heap.size + 1, 0, none⟩ (.int .i64 (s + 1)) = w2 at *
        obtain ⟨d0, d1, e0, e1⟩ := blk2 K2
        have HK2 := Lib.hid K2
        have HR2 := Lib.hid R2
        have HB2 := Lib.hid B2
        clear K2 R2 B2
        go_region
        go_wp2_with fail
        go_roundw
        case rel =>
          refine ⟨k + 1, by omega, by go_num, ?_, blk_drew (blk_other HR2.out (by simp)), bl_drew (bl_set HB2.out (by simp) _)⟩
          rw [HS.out, if_pos hh]
          exact blk_drew (blk_set HK2.out 1 _)
        case measure => simp [intOf]; omega
      · go_wp2_with fail
        have K2 : Blk (wr.setCell ⟨w.heap.size + 1, 0, none⟩ (.int .i64 (s - 1))) (w.heap.size + 1) #[.int .i64 (s - 1), .int .i64 t] := blk_set HK.out 0 _
        have R2 : Blk (wr.setCell ⟨w.heap.size + 1, 0, none⟩ (.int .i64 (s - 1))) w.heap.size #[.int .i64 0, .int .i64 0] := blk_other HR.out (by simp)
        have B2 : Below w.heap.size w (wr.setCell ⟨w.heap.size + 1, 0, none⟩ (.int .i64 (s - 1))) := bl_set HB.out (by simp) _
        generalize wr.setCell ⟨w.heap.size + 1, 0, none⟩ (.int .i64 (s - 1)) = w2 at *
        obtain ⟨d0, d1, e0, e1⟩ := blk2 K2
        have HK2 := Lib.hid K2
        have HR2 := Lib.hid R2
        have HB2 := Lib.hid B2
        clear K2 R2 B2
        go_region
        go_wp2_with fail
        go_roundw
        case rel =>
          refine ⟨k + 1, by omega, by go_num, ?_, blk_drew (blk_other HR2.out (by simp)), bl_drew (bl_set HB2.out (by simp) _)⟩
          rw [HS.out, if_neg (by omega), show s + -1 = s - 1 from rfl]
          exact blk_drew (blk_set HK2.out 1 _)
        case measure => simp [intOf]; omega
    · obtain rfl : k = N := by omega
      go_wp2_with fail
      refine bodyPost_ret (v := .tuple #[.agg #[.int .i64 (hundS l k).1, .int .i64 (hundS l k).2], .bool true]) ?_ rfl ⟨rfl, ?_⟩
      · have KR : Blk _ w.heap.size #[.int .i64 (hundS l k).1, .int .i64 (hundS l k).2] := blk_set (blk_set HR.out 0 _) 1 _
        obtain ⟨r0, r1, _, _⟩ := blk2 KR
        simp [results, Tryd.results5, go_sem, r0, r1]
      · exact bl_set (bl_set HB.out (by simp) _) (by simp) _

end Go.Proofs.YtcmbilddlbejgaaDoor
