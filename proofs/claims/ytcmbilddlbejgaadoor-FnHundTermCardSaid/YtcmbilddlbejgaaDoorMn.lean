/- The contract of impl.newMicroTable: a map that counts the microstates by their sums. -/
import Derived.Test.YtcmbilddlbejgaaDoorMt
import Derived.Test.YtcmbilddlbejgaaDoorMi
import Derived.Test.YtcmbilddlbejgaaDoorPmt
import Derived.Test.YtcmbilddlbejgaaDoorTk
import Derived.Test.YtcmbilddlbejgaaDoorRk
import Derived.Deep.DeepCutAuto
namespace Go.Proofs.YtcmbilddlbejgaaDoor
open Go.RowKit
set_option linter.unusedVariables false

theorem scs_two (p : Int × Int) : (scs p).length = 2 := rfl

set_option maxRecDepth 100000 in
set_option maxHeartbeats 2000000 in
theorem i_newMicroTable (l n : Int) (w : World) (he : elecB l n = true) (ht : Tab w) :
    Calls Tryd.prog 13 #[.int .i64 l, .int .i64 n] w fun e w' => ∃ b, e = .returned (.map (some b)) ∧ w.heap.size ≤ b ∧ MTab w' b 1024 (cntM (microL l n (statesN l))) ∧ Below w.heap.size w w' := by
  obtain ⟨⟨l1, l2⟩, n1, n2⟩ := elecB_iff.1 he
  have hmm := @run_makeMap Tryd.prog
  have HE := Lib.hid he
  have HTb := Lib.hid ht
  clear he ht
  go_enter Tryd.func13, Tryd.ntmps13
  go_wp2_with fail
  have tb0 : Tab (w.alloc (.map #[] 0)) := Tab.below HTb.out (bl_alloc (Below.refl _ _) _)
  have M0 := mtab_made w
  refine (i_microstates l n _ HE.out tb0).mono ?_
  rintro e w4 ⟨v, rfl, hvv, hb4⟩
  have M4 := M0.later hb4
  unfold Micros at hvv
  obtain ⟨a, cap, rfl, hmx, hc⟩ := SRow.opened scs_two hvv
  have BD : Hid (∀ k x y, (microL l n (statesN l))[k]? = some (x, y) → (-100 ≤ x ∧ x ≤ 100) ∧ -100 ≤ y ∧ y ≤ 100) := Lib.hid (fun k x y h => microL_bd l1 l2 h)
  have hlen := microL_len2 (n := n) l2
  obtain ⟨xs, hxs⟩ : ∃ xs, microL l n (statesN l) = xs := ⟨_, rfl⟩
  rw [hxs] at hvv hmx hc BD hlen ⊢
  have HXS := Lib.hid hxs
  clear hxs
  have HC := Lib.hid hc
  have w4z := hb4.size
  simp at w4z
  have W4 := Lib.hid (show Below w.heap.size w w4 from btr (bl_alloc (Below.refl _ _) _) hb4)
  clear hc hvv hb4 tb0 M0 hmm
  have HM4 := Lib.hid M4
  clear M4
  unfold maxLen at hmx
  go_wp2_with fail
  go_loopw [13] (fun c wr => ∃ k : Nat, k ≤ xs.length ∧ c = .int .i64 (k : Int) ∧ MTab wr w.heap.size k (cntM (xs.take k)) ∧ w4.grownBy wr (some w.heap.size)) (fun c _ => xs.length - (intOf c).toNat)
  case atStart => exact ⟨0, Nat.zero_le _, rfl, HM4.out, on_refl _ _⟩
  case round =>
    obtain ⟨k, hk, rfl, hM, hG⟩ := hrel
    have hsr := hG.size
    by_cases hlt : k < xs.length
    · rcases HC.out with h | ⟨g, rfl, hg1, hg2, hc⟩
      · subst h; simp at hlt
      simp at hg1
      obtain ⟨⟨x, y⟩, hx⟩ : ∃ p, xs[k]? = some p := ⟨xs[k], List.getElem?_eq_getElem hlt⟩
      obtain ⟨⟨bx0, bx1⟩, by0, by1⟩ := BD.out k x y hx
      have a0 := hc k 0 _ _ hx rfl
      have a1 := hc k 1 _ _ hx rfl
      simp only [Nat.add_zero] at a0 a1
      have hne : some w.heap.size ≠ some g := by intro e; injection e with e; omega
      have b0 := mt_cell hG a0 hg2 hne
      have b1 := mt_cell hG a1 hg2 hne
      have hbl := hM.lt
      obtain ⟨c0, c1⟩ := cntM_bd xs k x y
      obtain ⟨c, hcv⟩ : ∃ c, cntM (xs.take k) x y = c := ⟨_, rfl⟩
      rw [hcv] at c0 c1
      have ix : I64 x := by unfold I64; omega
      have iy : I64 y := by unfold I64; omega
      have iv : I64 (c + 1) := by unfold I64; omega
      have hMz : MTab (wr.alloc (.cells #[.int .i64 x, .int .i64 y] 41)).drew w.heap.size k (cntM (xs.take k)) := (hM.alloc _).drew
      obtain ⟨c', st, z1, z2, hE, M1, g1, hS, M2, g2⟩ := hMz.step (by unfold maxLen; omega) ix iy iv
      have hL0 := hMz.look ix iy
      have hL1 := M1.look ix iy
      rw [hcv] at hL0 hL1
      have TE := Lib.hid (show MTab z2 w.heap.size (k + 1) (cntM (xs.take (k + 1))) from M2.congr (fun a b => by rw [cntM_succ hx]; unfold updF; rw [hcv]))
      have GE := Lib.hid (show w4.grownBy z2 (some w.heap.size) from on_trans (on_trans (on_drew (on_alloc hG _)) g1) g2)
      have hSz : (wr.alloc (.cells #[.int .i64 x, .int .i64 y] 41)).drew.cell? ⟨wr.heap.size, 0, none⟩ = some (.int .i64 x) ∧ (wr.alloc (.cells #[.int .i64 x, .int .i64 y] 41)).drew.cell? ⟨wr.heap.size, 1, none⟩ = some (.int .i64 y) := by
        obtain ⟨r1, r2, _⟩ := blk2 (blk_drew (blk_new (w := wr) (cs := #[.int .i64 x, .int .i64 y]) (t := 41) rfl))
        exact ⟨r1, r2⟩
      have hneB : some w.heap.size ≠ some wr.heap.size := by intro e; injection e with e; omega
      have hSz1 : z1.cell? ⟨wr.heap.size, 0, none⟩ = some (.int .i64 x) ∧ z1.cell? ⟨wr.heap.size, 1, none⟩ = some (.int .i64 y) := ⟨mt_cell g1 hSz.1 (by simp) hneB, mt_cell g1 hSz.2 (by simp) hneB⟩
      have hSz2 : z2.cell? ⟨wr.heap.size, 0, none⟩ = some (.int .i64 x) ∧ z2.cell? ⟨wr.heap.size, 1, none⟩ = some (.int .i64 y) := ⟨mt_cell g2 hSz1.1 (Nat.lt_of_lt_of_le (by simp) g1.size) hneB, mt_cell g2 hSz1.2 (Nat.lt_of_lt_of_le (by simp) g1.size) hneB⟩
      have wv : IntKind.i64.wrap (c + 1) = c + 1 := IntWalk.i64_in _ (by omega)
      clear hMz M1 M2 g1 g2 a0 a1 hc hx hM hG hcv ix iy iv
      go_upto_region 5 with fail
      refine wp_region_held_drew (S := (fun w' => w'.cell? ⟨wr.heap.size, 0, none⟩ = some (.int .i64 x) ∧ w'.cell? ⟨wr.heap.size, 1, none⟩ = some (.int .i64 y))) (by kernel_rfl) ?_ (fun hHeld => ?_)
      · (try dsimp only)
        first | exact hSz | exact hSz1 | exact hSz2
      refine take_yes (i := 0) (v := ?vm1) (d := some 17) rfl rfl (by kernel_rfl) (by kernel_rfl) (by kernel_rfl) (fun _ _ _ h => h) (by rfl) ?ym1 (by assumption) ?rm1
      case ym1 =>
        intro w hSw
        (try dsimp only at hSw)
        go_simp
        try with_reducible rfl
      (try simp only [Act.put, List.setIfInBounds_toArray, List.set_cons_zero, List.set_cons_succ])
      refine take_yes (i := 1) (v := ?vm2) (d := some 18) rfl rfl (by kernel_rfl) (by kernel_rfl) (by kernel_rfl) (fun _ _ _ h => h) (by rfl) ?ym2 (by assumption) ?rm2
      case ym2 =>
        intro w hSw
        (try dsimp only at hSw)
        go_simp
        try with_reducible rfl
      (try simp only [Act.put, List.setIfInBounds_toArray, List.set_cons_zero, List.set_cons_succ])
      refine wpAnyH_ready (rs := [2, 4]) (by kernel_rfl) (by simp) ?_
      refine AllReadyH.cons (o := _) rfl (fun K hK => ?_) ?_
      · go_simp
        refine hK.out _ _ ?_ (fun hHeld => ?_)
        · (try dsimp only)
          first | exact hSz | exact hSz1 | exact hSz2
        clear hK K
        (try simp only [Act.put, List.setIfInBounds_toArray, List.set_cons_zero, List.set_cons_succ])
        refine take_yes (i := 3) (v := ?vm3) (d := some 20) rfl rfl (by kernel_rfl) (by kernel_rfl) (by kernel_rfl) (fun _ _ _ h => h) (by rfl) ?ym3 (by assumption) ?rm3
        case ym3 =>
          intro w hSw
          (try dsimp only at hSw)
          go_simp
          try with_reducible rfl
        (try simp only [Act.put, List.setIfInBounds_toArray, List.set_cons_zero, List.set_cons_succ])
        refine wpAnyH_ready (rs := [4]) (by kernel_rfl) (by simp) ?_
        refine AllReadyH.cons (o := _) rfl (fun K hK => ?_) AllReadyH.nil
        go_simp
        refine hK.out _ _ ?_ (fun hHeld => ?_)
        · (try dsimp only)
          first | exact hSz | exact hSz1 | exact hSz2
        clear hK K
        (try simp only [Act.put, List.setIfInBounds_toArray, List.set_cons_zero, List.set_cons_succ])
        refine take_yes (i := 5) (v := ?vm4) (d := some 22) rfl rfl (by kernel_rfl) (by kernel_rfl) (by kernel_rfl) (fun _ _ _ h => h) (by rfl) ?ym4 (by assumption) ?rm4
        case ym4 =>
          intro w hSw
          (try dsimp only at hSw)
          go_simp
          try with_reducible rfl
        (try simp only [Act.put, List.setIfInBounds_toArray, List.set_cons_zero, List.set_cons_succ])
        refine wpAnyH_ready (rs := [6]) (by kernel_rfl) (by simp) ?_
        refine AllReadyH.cons (o := _) rfl (fun K hK => ?_) AllReadyH.nil
        go_simp
        refine hK.out _ _ ?_ (fun hHeld => ?_)
        · (try dsimp only)
          first | exact hSz | exact hSz1 | exact hSz2
        clear hK K
        (try simp only [Act.put, List.setIfInBounds_toArray, List.set_cons_zero, List.set_cons_succ])
        refine wpAnyH_done (by kernel_rfl) ?_ _
        go_wp2_with fail
        go_roundw
        case rel => exact ⟨k + 1, by omega, by go_num, TE.out, GE.out⟩
        case measure => simp [intOf]; omega
      refine AllReadyH.cons (o := _) rfl (fun K hK => ?_) AllReadyH.nil
      go_simp
      refine hK.out _ _ ?_ (fun hHeld => ?_)
      · (try dsimp only)
        first | exact hSz | exact hSz1 | exact hSz2
      clear hK K
      (try simp only [Act.put, List.setIfInBounds_toArray, List.set_cons_zero, List.set_cons_succ])
      refine take_yes (i := 5) (v := ?vm5) (d := some 22) rfl rfl (by kernel_rfl) (by kernel_rfl) (by kernel_rfl) (fun _ _ _ h => h) (by rfl) ?ym5 (by assumption) ?rm5
      case ym5 =>
        intro w hSw
        (try dsimp only at hSw)
        go_simp
        try with_reducible rfl
      (try simp only [Act.put, List.setIfInBounds_toArray, List.set_cons_zero, List.set_cons_succ])
      refine wpAnyH_ready (rs := [2]) (by kernel_rfl) (by simp) ?_
      refine AllReadyH.cons (o := _) rfl (fun K hK => ?_) AllReadyH.nil
      go_simp
      refine hK.out _ _ ?_ (fun hHeld => ?_)
      · (try dsimp only)
        first | exact hSz | exact hSz1 | exact hSz2
      clear hK K
      (try simp only [Act.put, List.setIfInBounds_toArray, List.set_cons_zero, List.set_cons_succ])
      refine take_yes (i := 3) (v := ?vm6) (d := some 20) rfl rfl (by kernel_rfl) (by kernel_rfl) (by kernel_rfl) (fun _ _ _ h => h) (by rfl) ?ym6 (by assumption) ?rm6
      case ym6 =>
        intro w hSw
        (try dsimp only at hSw)
        go_simp
        try with_reducible rfl
      (try simp only [Act.put, List.setIfInBounds_toArray, List.set_cons_zero, List.set_cons_succ])
      refine wpAnyH_ready (rs := [6]) (by kernel_rfl) (by simp) ?_
      refine AllReadyH.cons (o := _) rfl (fun K hK => ?_) AllReadyH.nil
      go_simp
      refine hK.out _ _ ?_ (fun hHeld => ?_)
      · (try dsimp only)
        first | exact hSz | exact hSz1 | exact hSz2
      clear hK K
      (try simp only [Act.put, List.setIfInBounds_toArray, List.set_cons_zero, List.set_cons_succ])
      refine wpAnyH_done (by kernel_rfl) ?_ _
      go_wp2_with fail
      go_roundw
      case rel => exact ⟨k + 1, by omega, by go_num, TE.out, GE.out⟩
      case measure => simp [intOf]; omega
    · obtain rfl : k = xs.length := by omega
      rw [List.take_length] at hM
      go_wp2_with fail
      go_ret
      exact ⟨_, rfl, Nat.le_refl _, by rw [HXS.out]; exact hM.mono hlen, W4.out.grown hG (Nat.le_of_succ_le w4z) (fun j e => by cases e; exact Nat.le_refl _)⟩

end Go.Proofs.YtcmbilddlbejgaaDoor
