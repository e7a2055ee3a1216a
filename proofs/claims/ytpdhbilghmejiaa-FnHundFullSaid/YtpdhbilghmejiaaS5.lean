/- Contracts of ConfigOpen, of the program and of the reference. -/
import Derived.Test.YtpdhbilghmejiaaS4
import Derived.Maps.AppendAt
namespace Go.Proofs.Ytpdhbilghmejiaa
open Go.RowKit
set_option linter.unusedVariables false

theorem infoShell : (Try.prog.info? 51).map (fun i => (i.zero, i.size, i.bytes)) = some (some (.agg #[.int .i64 0, .int .i64 0, .int .i64 0]), 3, 24) := by kernel_rfl
def isOpen (p : Sh) : Bool := decide (p.2.2 < 4 * p.2.1 + 2)
/-- The open shells of a configuration. -/
def openL (xs : List Sh) : List Sh := if cfgB xs = true then xs.filter isOpen else []
/-- The call returns a new slice of these shells. -/
def RShells (w : World) (xs : List Sh) (e : Ending) (w' : World) : Prop := ∃ v, e = .returned v ∧ Shells w' w.heap.size v xs ∧ Below w.heap.size w w'
theorem SRow.drewN {α : Type} {ty size : Nat} {f : α → List Value} {w : World} {b : Nat} {v : Value} {xs : List α} (h : SRow ty size f w b v xs) (n : Nat) : SRow ty size f (w.drewN n) b v xs := by
  unfold SRow World.ownsRow at *
  exact h
theorem shAt_take {xs : List Sh} {k : Nat} (h : k < xs.length) : xs.take (k + 1) = xs.take k ++ [shAt xs k] := by
  obtain ⟨hk, he⟩ := List.getElem?_eq_some_iff.1 (shAt_get h)
  rw [List.take_succ_eq_append_getElem hk, he]
theorem open_yes {xs : List Sh} {k : Nat} {p : Sh} (h : k < xs.length) (hp : shAt xs k = p) (ho : isOpen p = true) : (xs.take (k + 1)).filter isOpen = (xs.take k).filter isOpen ++ [p] := by
  rw [shAt_take h, List.filter_append, hp]; simp [ho]
theorem open_no {xs : List Sh} {k : Nat} {p : Sh} (h : k < xs.length) (hp : shAt xs k = p) (ho : isOpen p = false) : (xs.take (k + 1)).filter isOpen = (xs.take k).filter isOpen := by
  rw [shAt_take h, List.filter_append, hp]; simp [ho]
theorem okAt_sh {xs : List Sh} {k : Nat} {N L C : Int} (hp : shAt xs k = (N, L, C)) (h : okAt xs k = true) : (1 ≤ N ∧ N ≤ 7) ∧ (0 ≤ L ∧ L ≤ 3) ∧ L < N ∧ 1 ≤ C ∧ C ≤ 4 * L + 2 := by
  unfold okAt at h
  rw [Bool.and_eq_true, hp] at h
  exact shB_iff.1 h.1
theorem quietS (l : Int) (w : World) (n : Nat) (h0 : 0 ≤ l) (h1 : l ≤ 3) : Calls Try.prog 55 #[.int .i64 l] (w.drewN n) fun e w'' => e = .returned (.int .i64 (4 * l + 2)) ∧ ∃ m, w'' = w.drewN m :=
  quietL ((s_ShellCapacity l _).mono fun e w' ⟨he, hw⟩ => ⟨by rw [he, capI_in h0 h1], hw⟩)

set_option maxRecDepth 100000 in
set_option maxHeartbeats 2000000 in
theorem i_ConfigOpen (v : Value) (xs : List Sh) (b : Nat) (w : World) (hv : Shells w b v xs) (hn : xs.length ≤ 2000000) :
    Calls Try.prog 29 #[v] w (RShells w (openL xs)) := by
  obtain ⟨i0, hi, hz0, hz1, hz2⟩ := info_parts infoShell
  have HI := Lib.hid (And.intro hi (And.intro hz0 (And.intro hz1 hz2)))
  clear hi hz0 hz1 hz2
  obtain ⟨a, cap, rfl, hc⟩ := Shells.opened hv
  have HV := Lib.hid hv
  have HC := Lib.hid hc
  clear hc hv
  cases hcf : cfgB xs
  · have E := Lib.hid (show openL xs = [] by simp [openL, hcf])
    go_enter Try.func29, Try.ntmps29
    go_wp2_with fail
    refine (i_ConfigValid _ xs b w HV.out hn).mono ?_
    rintro e w1 ⟨rfl, hb⟩
    have HB1 : Hid (Below w.heap.size w w1) := Lib.hid hb
    rw [hcf]
    clear hb
    go_wp2_with fail
    go_ret
    exact ⟨_, rfl, by rw [E.out]; exact SRow.nil _ _, HB1.out⟩
  · have E := Lib.hid (show openL xs = xs.filter isOpen by simp [openL, hcf])
    have HOK := Lib.hid (cfg_at hcf).1
    go_enter Try.func29, Try.ntmps29
    go_wp2_with fail
    refine (i_ConfigValid _ xs b w HV.out hn).mono ?_
    rintro e w1 ⟨rfl, hb⟩
    have HB1 : Hid (Below w.heap.size w w1) := Lib.hid hb
    rw [hcf]
    have hs1 := hb.size
    clear hb
    go_wp2_with fail
    go_loopw [3, 11] (fun v c wr => ∃ k : Nat, k ≤ xs.length ∧ c = .int .i64 k ∧ Shells wr w.heap.size v ((xs.take k).filter isOpen) ∧ Below w.heap.size w wr) (fun _ c _ => xs.length - (intOf c).toNat)
    case atStart => exact ⟨0, Nat.zero_le _, rfl, SRow.nil _ _, HB1.out⟩
    case round =>
      obtain ⟨k, hk, rfl, hO, hB⟩ := hrel
      have HO := Lib.hid hO
      have HN := Lib.hid hB
      have hs := hB.size
      by_cases hlt : k < xs.length
      · rcases HC.out with h | ⟨g, rfl, hg1, hg2, hg⟩
        · subst h; simp at hlt
        obtain ⟨a0, a1, a2⟩ := hg k hlt
        have c0 : wr.cell? ⟨g, k * 3, none⟩ = some (.int .i64 (shAt xs k).1) := by rw [hB.cell (p := ⟨g, k * 3, none⟩) hg2]; exact a0
        have c1 : wr.cell? ⟨g, k * 3 + 1, none⟩ = some (.int .i64 (shAt xs k).2.1) := by rw [hB.cell (p := ⟨g, k * 3 + 1, none⟩) hg2]; exact a1
        have c2 : wr.cell? ⟨g, k * 3 + 2, none⟩ = some (.int .i64 (shAt xs k).2.2) := by rw [hB.cell (p := ⟨g, k * 3 + 2, none⟩) hg2]; exact a2
        clear a0 a1 a2 hg hB
        have hok := HOK.out k hlt
        generalize hp : shAt xs k = p at *
        obtain ⟨N, L, C⟩ := p
        obtain ⟨_, ⟨L0, L1⟩, _, C0, C1⟩ := okAt_sh hp hok
        have HP := Lib.hid hp
        clear hok hp
        have hl : ((xs.take k).filter isOpen).length ≤ 2000000 := Nat.le_trans (List.length_filter_le _ _) (by rw [List.length_take]; omega)
        have k8 : (0 : Int) ≤ (k : Int) := by omega
        have k9 : (k : Int) < (xs.length : Int) := by omega
        by_cases hop : C < 4 * L + 2
        · have HOP := Lib.hid (show isOpen (N, L, C) = true by simp [isOpen]; omega)
          go_wp2_with fail
          go_quiet ((go_at_call 48; exact quietC _ _ _ (by omega) (by omega)))
          rename_i nq
          have hO2 : Shells ((wr.alloc (.cells #[.int .i64 N, .int .i64 L, .int .i64 C] 51)).drewN nq) w.heap.size u3 ((xs.take k).filter isOpen) := SRow.drewN (SRow.alloc HO.out _) _
          clear hO
          have Kz21_x : Blk ((wr.alloc (.cells #[.int .i64 N, .int .i64 L, .int .i64 C] 51)).drewN nq) (wr.heap.size) #[.int .i64 N, .int .i64 L, .int .i64 C] := (blk_drewN (blk_new (by simp)) _)
          have Bz21 : Below w.heap.size w ((wr.alloc (.cells #[.int .i64 N, .int .i64 L, .int .i64 C] 51)).drewN nq) := by (repeat' (first | exact Below.refl _ _ | refine bl_out ?_ (by assumption) | exact (Hid.out (by assumption)) | refine bl_alloc ?_ _ | refine bl_drewN ?_ _ | refine bl_drew ?_ | refine bl_set ?_ ?_ _ | omega | (simp; done) | (simp; omega)))
          have Sz21 : ((wr.alloc (.cells #[.int .i64 N, .int .i64 L, .int .i64 C] 51)).drewN nq).heap.size = wr.heap.size + 1 := by simp
          generalize ((wr.alloc (.cells #[.int .i64 N, .int .i64 L, .int .i64 C] 51)).drewN nq) = z21 at *
          have Sz21a := Nat.le_of_eq Sz21
          have Sz21b := Nat.le_of_eq Sz21.symm
          clear Sz21
          obtain ⟨z21_c0_x, z21_c1_x, z21_c2_x, z21_f0_x, z21_f1_x, z21_f2_x⟩ := blk3 Kz21_x
          have Kz21_xH := Lib.hid Kz21_x
          have z21_l_x := Kz21_x.lt
          have z21B := Lib.hid Bz21
          clear Bz21
          clear Kz21_x
          have hsz : w.heap.size ≤ z21.heap.size := z21B.out.size
          have HO2 := Lib.hid hO2
          generalize hys : (xs.take k).filter isOpen = ys at hO2 hl
          have HYS := Lib.hid hys
          clear hys
          unfold Shells SRow at hO2
          obtain ⟨hi, hz0, hz1, hz2⟩ := HI.out
          go_wp2_with (at_builtin; refine wpList_append_own _ rfl _ _ 44 rfl w.heap.size 51 i0 (.agg #[.int .i64 0, .int .i64 0, .int .i64 0]) 3 24 Try.underlying44 hi hz0 hz1 hz2 rfl (by decide) _ _ _ rfl (hO2.alloc _) ⟨z21.heap.size, 0, none⟩ 1 1 (scs (N, L, C)) rfl rfl ?c1 ?c2 ?c3 ?c4 ?c5 ?_)
          case c1 => exact cells_new3 _ _ _ _ _
          case c2 => intro u hu; simp [scs] at hu; rcases hu with rfl | rfl | rfl <;> rfl
          case c3 => unfold maxLen; omega
          case c4 => omega
          case c5 => simp; omega
          intro v' w3 hown' hgrow _
          have A1 : Shells w3 w.heap.size v' ((xs.take (k + 1)).filter isOpen) := by rw [open_yes hlt HP.out HOP.out, HYS.out]; exact SRow.app hown'
          have A2 : Below w.heap.size w w3 := app_below z21B.out hO2 hgrow (Nat.le_refl _) hsz
          have H1 := Lib.hid A1
          have H2 := Lib.hid A2
          clear A1 A2 hown' hgrow hO2
          go_wp2_with fail
          go_roundw
          case rel => exact ⟨k + 1, by omega, by go_num, H1.out, H2.out⟩
          case measure => simp [intOf]; omega
        · have HOP := Lib.hid (show isOpen (N, L, C) = false by simp [isOpen]; omega)
          go_wp2_with fail
          go_quiet ((go_at_call 48; exact quietC _ _ _ (by omega) (by omega)))
          rename_i nq
          have hO2 : Shells ((wr.alloc (.cells #[.int .i64 N, .int .i64 L, .int .i64 C] 51)).drewN nq) w.heap.size u3 ((xs.take k).filter isOpen) := SRow.drewN (SRow.alloc HO.out _) _
          clear hO
          have Kz21_x : Blk ((wr.alloc (.cells #[.int .i64 N, .int .i64 L, .int .i64 C] 51)).drewN nq) (wr.heap.size) #[.int .i64 N, .int .i64 L, .int .i64 C] := (blk_drewN (blk_new (by simp)) _)
          have Bz21 : Below w.heap.size w ((wr.alloc (.cells #[.int .i64 N, .int .i64 L, .int .i64 C] 51)).drewN nq) := by (repeat' (first | exact Below.refl _ _ | refine bl_out ?_ (by assumption) | exact (Hid.out (by assumption)) | refine bl_alloc ?_ _ | refine bl_drewN ?_ _ | refine bl_drew ?_ | refine bl_set ?_ ?_ _ | omega | (simp; done) | (simp; omega)))
          have Sz21 : ((wr.alloc (.cells #[.int .i64 N, .int .i64 L, .int .i64 C] 51)).drewN nq).heap.size = wr.heap.size + 1 := by simp
          generalize ((wr.alloc (.cells #[.int .i64 N, .int .i64 L, .int .i64 C] 51)).drewN nq) = z21 at *
          have Sz21a := Nat.le_of_eq Sz21
          have Sz21b := Nat.le_of_eq Sz21.symm
          clear Sz21
          obtain ⟨z21_c0_x, z21_c1_x, z21_c2_x, z21_f0_x, z21_f1_x, z21_f2_x⟩ := blk3 Kz21_x
          have Kz21_xH := Lib.hid Kz21_x
          have z21_l_x := Kz21_x.lt
          have z21B := Lib.hid Bz21
          clear Bz21
          clear Kz21_x
          have hsz : w.heap.size ≤ z21.heap.size := z21B.out.size
          have HO2 := Lib.hid hO2
          clear hO2
          go_wp2_with fail
          go_roundw
          case rel => exact ⟨k + 1, by omega, by go_num, by rw [open_no hlt HP.out HOP.out]; exact HO2.out, z21B.out⟩
          case measure => simp [intOf]; omega
      · obtain rfl : k = xs.length := by omega
        go_wp2_with fail
        go_ret
        refine ⟨_, rfl, ?_, HN.out⟩
        rw [E.out]
        have h0 := HO.out
        rw [List.take_length] at h0
        exact h0

set_option maxRecDepth 100000 in
set_option maxHeartbeats 2000000 in
theorem s_ConfigOpen (v : Value) (xs : List Sh) (b : Nat) (w : World) (hv : Shells w b v xs) (hn : xs.length ≤ 2000000) :
    Calls Try.prog 40 #[v] w (RShells w (openL xs)) := by
  obtain ⟨i0, hi, hz0, hz1, hz2⟩ := info_parts infoShell
  have HI := Lib.hid (And.intro hi (And.intro hz0 (And.intro hz1 hz2)))
  clear hi hz0 hz1 hz2
  obtain ⟨a, cap, rfl, hc⟩ := Shells.opened hv
  have HV := Lib.hid hv
  have HC := Lib.hid hc
  clear hc hv
  cases hcf : cfgB xs
  · have E := Lib.hid (show openL xs = [] by simp [openL, hcf])
    go_enter Try.func40, Try.ntmps40
    go_wp2_with fail
    refine (s_ConfigValid _ xs b _ (SRow.alloc HV.out _) hn).mono ?_
    rintro e w1 ⟨rfl, hb⟩
    have HB1 : Hid (Below w.heap.size w w1) := Lib.hid (btr (bl_alloc (Below.refl _ _) _) hb)
    have O1 : Hid (Shells w1 w.heap.size (.slice (some ⟨w.heap.size, 0, none⟩) 0 0) []) := Lib.hid (SRow.kept (SRow.emptyAt (by simp) (by simp)) hb)
    rw [hcf]
    clear hb
    go_wp2_with fail
    go_ret
    exact ⟨_, rfl, by rw [E.out]; exact O1.out, HB1.out⟩
  · have E := Lib.hid (show openL xs = xs.filter isOpen by simp [openL, hcf])
    have HOK := Lib.hid (cfg_at hcf).1
    go_enter Try.func40, Try.ntmps40
    go_wp2_with fail
    refine (s_ConfigValid _ xs b _ (SRow.alloc HV.out _) hn).mono ?_
    rintro e w1 ⟨rfl, hb⟩
    have HB1 : Hid (Below w.heap.size w w1) := Lib.hid (btr (bl_alloc (Below.refl _ _) _) hb)
    have O1 : Hid (Shells w1 w.heap.size (.slice (some ⟨w.heap.size, 0, none⟩) 0 0) []) := Lib.hid (SRow.kept (SRow.emptyAt (by simp) (by simp)) hb)
    rw [hcf]
    have hs1 := hb.size
    try simp at hs1
    clear hb
    go_wp2_with fail
    go_loopw [3, 4] (fun v c wr => ∃ k : Nat, k ≤ xs.length ∧ c = .int .i64 k ∧ Shells wr w.heap.size v ((xs.take k).filter isOpen) ∧ Below w.heap.size w wr) (fun _ c _ => xs.length - (intOf c).toNat)
    case atStart => exact ⟨0, Nat.zero_le _, rfl, O1.out, HB1.out⟩
    case round =>
      obtain ⟨k, hk, rfl, hO, hB⟩ := hrel
      have HO := Lib.hid hO
      have HN := Lib.hid hB
      have hs := hB.size
      by_cases hlt : k < xs.length
      · rcases HC.out with h | ⟨g, rfl, hg1, hg2, hg⟩
        · subst h; simp at hlt
        obtain ⟨a0, a1, a2⟩ := hg k hlt
        have c0 : wr.cell? ⟨g, k * 3, none⟩ = some (.int .i64 (shAt xs k).1) := by rw [hB.cell (p := ⟨g, k * 3, none⟩) hg2]; exact a0
        have c1 : wr.cell? ⟨g, k * 3 + 1, none⟩ = some (.int .i64 (shAt xs k).2.1) := by rw [hB.cell (p := ⟨g, k * 3 + 1, none⟩) hg2]; exact a1
        have c2 : wr.cell? ⟨g, k * 3 + 2, none⟩ = some (.int .i64 (shAt xs k).2.2) := by rw [hB.cell (p := ⟨g, k * 3 + 2, none⟩) hg2]; exact a2
        clear a0 a1 a2 hg hB
        have hok := HOK.out k hlt
        generalize hp : shAt xs k = p at *
        obtain ⟨N, L, C⟩ := p
        obtain ⟨_, ⟨L0, L1⟩, _, C0, C1⟩ := okAt_sh hp hok
        have HP := Lib.hid hp
        clear hok hp
        have hl : ((xs.take k).filter isOpen).length ≤ 2000000 := Nat.le_trans (List.length_filter_le _ _) (by rw [List.length_take]; omega)
        have k8 : (0 : Int) ≤ (k : Int) := by omega
        have k9 : (k : Int) < (xs.length : Int) := by omega
        by_cases hop : C < 4 * L + 2
        · have HOP := Lib.hid (show isOpen (N, L, C) = true by simp [isOpen]; omega)
          go_wp2_with fail
          go_quiet ((go_at_call 55; exact quietS _ _ _ (by omega) (by omega)))
          rename_i nq
          have hO2 : Shells (wr.drewN nq) w.heap.size u3 ((xs.take k).filter isOpen) := SRow.drewN HO.out _
          have d0 : (wr.drewN nq).cell? ⟨g, k * 3, none⟩ = some (.int .i64 N) := c0
          have d1 : (wr.drewN nq).cell? ⟨g, k * 3 + 1, none⟩ = some (.int .i64 L) := c1
          have d2 : (wr.drewN nq).cell? ⟨g, k * 3 + 2, none⟩ = some (.int .i64 C) := c2
          clear hO
          have Bz21 : Below w.heap.size w (wr.drewN nq) := by (repeat' (first | exact Below.refl _ _ | refine bl_out ?_ (by assumption) | exact (Hid.out (by assumption)) | refine bl_alloc ?_ _ | refine bl_drewN ?_ _ | refine bl_drew ?_ | refine bl_set ?_ ?_ _ | omega | (simp; done) | (simp; omega)))
          generalize (wr.drewN nq) = z21 at *
          have z21B := Lib.hid Bz21
          clear Bz21
          have hsz : w.heap.size ≤ z21.heap.size := z21B.out.size
          have HO2 := Lib.hid hO2
          generalize hys : (xs.take k).filter isOpen = ys at hO2 hl
          have HYS := Lib.hid hys
          clear hys
          unfold Shells SRow at hO2
          obtain ⟨hi, hz0, hz1, hz2⟩ := HI.out
          go_wp2_with (at_builtin; refine wpList_append_own _ rfl _ _ 44 rfl w.heap.size 51 i0 (.agg #[.int .i64 0, .int .i64 0, .int .i64 0]) 3 24 Try.underlying44 hi hz0 hz1 hz2 rfl (by decide) _ _ _ rfl (hO2.alloc _) ⟨z21.heap.size, 0, none⟩ 1 1 (scs (N, L, C)) rfl rfl ?c1 ?c2 ?c3 ?c4 ?c5 ?_)
          case c1 => exact cells_new3 _ _ _ _ _
          case c2 => intro u hu; simp [scs] at hu; rcases hu with rfl | rfl | rfl <;> rfl
          case c3 => unfold maxLen; omega
          case c4 => omega
          case c5 => simp; omega
          intro v' w3 hown' hgrow _
          have A1 : Shells w3 w.heap.size v' ((xs.take (k + 1)).filter isOpen) := by rw [open_yes hlt HP.out HOP.out, HYS.out]; exact SRow.app hown'
          have A2 : Below w.heap.size w w3 := app_below z21B.out hO2 hgrow (Nat.le_refl _) hsz
          have H1 := Lib.hid A1
          have H2 := Lib.hid A2
          clear A1 A2 hown' hgrow hO2
          go_wp2_with fail
          go_roundw
          case rel => exact ⟨k + 1, by omega, by go_num, H1.out, H2.out⟩
          case measure => simp [intOf]; omega
        · have HOP := Lib.hid (show isOpen (N, L, C) = false by simp [isOpen]; omega)
          go_wp2_with fail
          go_quiet ((go_at_call 55; exact quietS _ _ _ (by omega) (by omega)))
          rename_i nq
          have hO2 : Shells (wr.drewN nq) w.heap.size u3 ((xs.take k).filter isOpen) := SRow.drewN HO.out _
          have d0 : (wr.drewN nq).cell? ⟨g, k * 3, none⟩ = some (.int .i64 N) := c0
          have d1 : (wr.drewN nq).cell? ⟨g, k * 3 + 1, none⟩ = some (.int .i64 L) := c1
          have d2 : (wr.drewN nq).cell? ⟨g, k * 3 + 2, none⟩ = some (.int .i64 C) := c2
          clear hO
          have Bz21 : Below w.heap.size w (wr.drewN nq) := by (repeat' (first | exact Below.refl _ _ | refine bl_out ?_ (by assumption) | exact (Hid.out (by assumption)) | refine bl_alloc ?_ _ | refine bl_drewN ?_ _ | refine bl_drew ?_ | refine bl_set ?_ ?_ _ | omega | (simp; done) | (simp; omega)))
          generalize (wr.drewN nq) = z21 at *
          have z21B := Lib.hid Bz21
          clear Bz21
          have hsz : w.heap.size ≤ z21.heap.size := z21B.out.size
          have HO2 := Lib.hid hO2
          clear hO2
          go_wp2_with fail
          go_roundw
          case rel => exact ⟨k + 1, by omega, by go_num, by rw [open_no hlt HP.out HOP.out]; exact HO2.out, z21B.out⟩
          case measure => simp [intOf]; omega
      · obtain rfl : k = xs.length := by omega
        go_wp2_with fail
        go_ret
        refine ⟨_, rfl, ?_, HN.out⟩
        rw [E.out]
        have h0 := HO.out
        rw [List.take_length] at h0
        exact h0

end Go.Proofs.Ytpdhbilghmejiaa
