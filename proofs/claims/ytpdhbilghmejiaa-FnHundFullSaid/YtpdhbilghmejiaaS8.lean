/- Contracts of ShellAt, l11Put and ConfigGround of the reference: what they leave is some shells. -/
import Derived.Test.YtpdhbilghmejiaaS7
import Derived.Test.YtpdhbilghmejiaaRk
namespace Go.Proofs.Ytpdhbilghmejiaa
open Go.RowKit
set_option linter.unusedVariables false

theorem blk_at2 {w : World} {g i : Nat} {cs : Array Value} (h : Blk w g cs) : w.cell? ⟨g, i, none⟩ = cs[i]? := by
  obtain ⟨t, h⟩ := h
  simp [World.cell?, h]
def ordA : Array Value := #[.int .i64 10, .int .i64 20, .int .i64 21, .int .i64 30, .int .i64 31, .int .i64 40, .int .i64 32, .int .i64 41, .int .i64 50, .int .i64 42, .int .i64 51, .int .i64 60, .int .i64 43, .int .i64 52, .int .i64 61, .int .i64 70, .int .i64 53, .int .i64 62, .int .i64 71]
theorem ord_at (k : Nat) (h : k < 19) : ∃ x : Int, ordA[k]? = some (.int .i64 x) ∧ 0 ≤ x ∧ x ≤ 100 := by
  rcases (by omega : k = 0 ∨ k = 1 ∨ k = 2 ∨ k = 3 ∨ k = 4 ∨ k = 5 ∨ k = 6 ∨ k = 7 ∨ k = 8 ∨ k = 9 ∨ k = 10 ∨ k = 11 ∨ k = 12 ∨ k = 13 ∨ k = 14 ∨ k = 15 ∨ k = 16 ∨ k = 17 ∨ k = 18) with h | h | h | h | h | h | h | h | h | h | h | h | h | h | h | h | h | h | h <;> subst h <;> exact ⟨_, rfl, by omega, by omega⟩

set_option maxRecDepth 100000 in
set_option maxHeartbeats 1000000 in
theorem s_l5Order (w : World) : Calls Try.prog 68 #[] w fun e w' => e = .returned (.slice (some ⟨w.heap.size, 0, none⟩) 19 19) ∧ Blk w' w.heap.size ordA ∧ Below w.heap.size w w' := by
  go_enter Try.func68, Try.ntmps68
  go_wp2_with fail
  go_ret
  exact ⟨rfl, blk_new (by simp), bl_alloc (Below.refl _ _) _⟩

set_option maxRecDepth 100000 in
set_option maxHeartbeats 1000000 in
theorem s_ShellAt (k : Nat) (w : World) (hk : k < 19) :
    Calls Try.prog 61 #[.int .i64 k] w fun e w' => ∃ N L C : Int, e = .returned (.tuple #[.agg #[.int .i64 N, .int .i64 L, .int .i64 C], .bool true]) ∧ (0 ≤ C ∧ C ≤ 20) ∧ Below w.heap.size w w' := by
  obtain ⟨x, hx, x0, x1⟩ := ord_at k hk
  have HX := Lib.hid hx
  clear hx
  have hb0 : inB (k : Int) 0 18 = true := inB_true (by omega) (by omega)
  have hcb : 0 ≤ capI (x % 10) ∧ capI (x % 10) ≤ 20 := by unfold capI; split <;> omega
  have k8 : (0 : Int) ≤ (k : Int) := by omega
  have k9 : (k : Int) < 19 := by omega
  go_enter Try.func61, Try.ntmps61
  go_wp2_with (go_at_call 60; refine (s_l6In _ _ _ _).mono ?_; rintro e w' ⟨rfl, rfl⟩; rw [hb0])
  refine (s_l5Order _).mono ?_
  rintro e w1 ⟨rfl, hO, hb⟩
  have c0 : w1.cell? ⟨w.heap.size + 1, k, none⟩ = some (.int .i64 x) := by
    have h := blk_at2 (i := k) hO
    rw [HX.out] at h
    simpa using h
  have K : Blk w1 w.heap.size #[.int .i64 0, .int .i64 0, .int .i64 0] := blk_later hb (blk_new (by simp))
  obtain ⟨a0, a1, a2, f0, f1, f2⟩ := blk3 K
  have HK := Lib.hid K
  have HB : Hid (Below w.heap.size w w1) := Lib.hid (btr (bl_alloc (Below.refl _ _) _) hb)
  clear K hb hO
  go_wp2_with (go_at_call 55; refine (s_ShellCapacity _ _).mono ?_; rintro e w' ⟨rfl, rfl⟩)
  refine bodyPost_ret (v := .tuple #[.agg #[.int .i64 (x / 10), .int .i64 (x % 10), .int .i64 (capI (x % 10))], .bool true]) ?_ rfl ⟨_, _, _, rfl, hcb, bl_set (bl_set (bl_set HB.out (Nat.le_refl _) _) (Nat.le_refl _) _) (Nat.le_refl _) _⟩
  have KR : Blk _ w.heap.size #[.int .i64 (x / 10), .int .i64 (x % 10), .int .i64 (capI (x % 10))] := blk_set (blk_set (blk_set HK.out 0 (.int .i64 (x / 10))) 1 (.int .i64 (x % 10))) 2 (.int .i64 (capI (x % 10)))
  obtain ⟨r0, r1, r2, _, _, _⟩ := blk3 KR
  simp [results, Try.results61, go_sem, r0, r1, r2]

theorem own_far {w : World} {base e size n g : Nat} {v : Value} {xs : List Value} (h : w.ownsRow base e size v n xs) (hg : g < base) : v.ownBlock ≠ some g := by
  intro hv
  have := own_blk h g hv
  omega
/-- Some shells lie there, at most n. -/
def SomeSh (w : World) (b : Nat) (v : Value) (n : Nat) : Prop := ∃ xs : List Sh, Shells w b v xs ∧ xs.length ≤ n

set_option maxRecDepth 100000 in
set_option maxHeartbeats 4000000 in
theorem s_l11Put (v : Value) (xs : List Sh) (b : Nat) (N L C : Int) (w : World) (hv : Shells w b v xs) (hn : xs.length ≤ 100) :
    Calls Try.prog 62 #[v, .agg #[.int .i64 N, .int .i64 L, .int .i64 C]] w fun e w' => ∃ v', e = .returned v' ∧ SomeSh w' w.heap.size v' (xs.length + 1) ∧ Below w.heap.size w w' := by
  obtain ⟨i0, hi, hz0, hz1, hz2⟩ := info_parts infoShell
  have HI := Lib.hid (And.intro hi (And.intro hz0 (And.intro hz1 hz2)))
  clear hi hz0 hz1 hz2
  obtain ⟨a, cap, rfl, hc⟩ := Shells.opened hv
  have HC := Lib.hid hc
  clear hc hv
  go_enter Try.func62, Try.ntmps62
  go_wp2_with fail
  have Ks : Blk (w.alloc (.cells #[.int .i64 N, .int .i64 L, .int .i64 C] 51)) w.heap.size #[.int .i64 N, .int .i64 L, .int .i64 C] := blk_new (by simp)
  have Bz : Below w.heap.size w (w.alloc (.cells #[.int .i64 N, .int .i64 L, .int .i64 C] 51)) := bl_alloc (Below.refl _ _) _
  have Sz : (w.alloc (.cells #[.int .i64 N, .int .i64 L, .int .i64 C] 51)).heap.size = w.heap.size + 1 := by simp
  generalize w.alloc (.cells #[.int .i64 N, .int .i64 L, .int .i64 C] 51) = z at *
  have HKs := Lib.hid Ks
  have HBz := Lib.hid Bz
  have Sz1 := Nat.le_of_eq Sz
  have Sz2 := Nat.le_of_eq Sz.symm
  have HSz := Lib.hid Sz
  clear Ks Bz Sz
  go_loopw [5, 6, 7] (fun v d c wr => ∃ (k : Nat) (ys : List Sh) (q : Bool), k ≤ xs.length ∧ c = .int .i64 k ∧ d = .bool q ∧ ys.length ≤ k + (if q = true then 1 else 0) ∧ Shells wr z.heap.size v ys ∧ Below z.heap.size z wr) (fun _ _ c _ => xs.length - (intOf c).toNat)
  case atStart => exact ⟨0, [], false, Nat.zero_le _, rfl, rfl, by simp, by first | exact SRow.empty _ | (rw [HSz.out]; exact SRow.emptyAt (by simp [HSz.out]) (Nat.le_refl _)), bl_alloc (Below.refl _ _) _⟩
  case round =>
    obtain ⟨k, ys, q, hk, rfl, rfl, hy, hO, hB⟩ := hrel
    have HO := Lib.hid hO
    have HB := Lib.hid hB
    have hs := hB.size
    have Ks := blk_later hB HKs.out
    obtain ⟨s0, s1, s2, _, _, _⟩ := blk3 Ks
    have HKr := Lib.hid Ks
    have ksl := Ks.lt
    clear Ks
    by_cases hlt : k < xs.length
    · rcases HC.out with h | ⟨g, rfl, hg1, hg2, hg⟩
      · subst h; simp at hlt
      have gz0 : g < z.heap.size := by omega
      obtain ⟨a0, a1, a2⟩ := hg k hlt
      have c0 : wr.cell? ⟨g, k * 3, none⟩ = some (.int .i64 (shAt xs k).1) := by rw [hB.cell (p := ⟨g, k * 3, none⟩) gz0, HBz.out.cell (p := ⟨g, k * 3, none⟩) hg2]; exact a0
      have c1 : wr.cell? ⟨g, k * 3 + 1, none⟩ = some (.int .i64 (shAt xs k).2.1) := by rw [hB.cell (p := ⟨g, k * 3 + 1, none⟩) gz0, HBz.out.cell (p := ⟨g, k * 3 + 1, none⟩) hg2]; exact a1
      have c2 : wr.cell? ⟨g, k * 3 + 2, none⟩ = some (.int .i64 (shAt xs k).2.2) := by rw [hB.cell (p := ⟨g, k * 3 + 2, none⟩) gz0, HBz.out.cell (p := ⟨g, k * 3 + 2, none⟩) hg2]; exact a2
      clear a0 a1 a2 hg hB
      generalize shAt xs k = p at *
      obtain ⟨N2, L2, C2⟩ := p
      have gz : g < wr.heap.size := by omega
      have k8 : (0 : Int) ≤ (k : Int) := by omega
      have k9 : (k : Int) < (xs.length : Int) := by omega
      go_wp2_with fail
      cases q
      · cases hle : lessB N L N2 L2
        · skip
          refine wp_region_held_drew (S := (fun w' => Below wr.heap.size wr w' ∧ (w'.cell? ⟨w.heap.size, 0, none⟩ = some (.int .i64 N) ∧ w'.cell? ⟨w.heap.size, 1, none⟩ = some (.int .i64 L) ∧ w'.cell? ⟨w.heap.size, 2, none⟩ = some (.int .i64 C)) ∧ w'.cell? ⟨g, k * 3, none⟩ = some (.int .i64 N2) ∧ w'.cell? ⟨g, k * 3 + 1, none⟩ = some (.int .i64 L2) ∧ w'.cell? ⟨g, k * 3 + 2, none⟩ = some (.int .i64 C2))) (by kernel_rfl) ?_ (fun hHeld => ?_)
          · (try dsimp only)
            (refine and_keep ?_ (fun hB => ⟨⟨held_cell hB s0 ksl, held_cell hB s1 ksl, held_cell hB s2 ksl⟩, held_cell hB c0 gz, held_cell hB c1 gz, held_cell hB c2 gz⟩); (repeat' (first | with_reducible exact Below.refl _ _ | with_reducible refine bl_alloc ?_ _ | with_reducible refine bl_set ?_ ?_ _ | exact (Below.refl _ _).drew | with_reducible refine bl_drew ?_ | with_reducible refine btr ?_ hbA | omega | (simp; done) | (simp; omega))))
          refine take_yes (i := 0) (v := ?vl01) (d := some 15) rfl rfl (by kernel_rfl) (by kernel_rfl) (by kernel_rfl) (fun _ _ _ h => h) (by rfl) ?yl01 (by assumption) ?rl01
          case yl01 =>
            intro w hSw
            (try dsimp only at hSw)
            go_simp
            try with_reducible rfl
          (try simp only [Act.put, List.setIfInBounds_toArray, List.set_cons_zero, List.set_cons_succ])
          refine take_yes (i := 1) (v := ?vl02) (d := some 16) rfl rfl (by kernel_rfl) (by kernel_rfl) (by kernel_rfl) (fun _ _ _ h => h) (by rfl) ?yl02 (by assumption) ?rl02
          case yl02 =>
            intro w hSw
            (try dsimp only at hSw)
            go_simp
            try with_reducible rfl
          (try simp only [Act.put, List.setIfInBounds_toArray, List.set_cons_zero, List.set_cons_succ])
          refine take_yes (i := 2) (v := ?vl03) (d := some 17) rfl rfl (by kernel_rfl) (by kernel_rfl) (by kernel_rfl) (fun _ _ _ h => h) (by rfl) ?yl03 (by assumption) ?rl03
          case yl03 =>
            intro w hSw
            (try dsimp only at hSw)
            go_simp
            try with_reducible rfl
          (try simp only [Act.put, List.setIfInBounds_toArray, List.set_cons_zero, List.set_cons_succ])
          refine take_yes (i := 3) (v := ?vl04) (d := some 18) rfl rfl (by kernel_rfl) (by kernel_rfl) (by kernel_rfl) (fun _ _ _ h => h) (by rfl) ?yl04 (by assumption) ?rl04
          case yl04 =>
            intro w hSw
            (try dsimp only at hSw)
            go_simp
            try with_reducible rfl
          (try simp only [Act.put, List.setIfInBounds_toArray, List.set_cons_zero, List.set_cons_succ])
          refine take_yes (i := 4) (v := ?vl05) (d := some 19) rfl rfl (by kernel_rfl) (by kernel_rfl) (by kernel_rfl) (fun _ _ _ h => h) (by rfl) ?yl05 (by assumption) ?rl05
          case yl05 =>
            intro w hSw
            (try dsimp only at hSw)
            go_simp
            try with_reducible rfl
          (try simp only [Act.put, List.setIfInBounds_toArray, List.set_cons_zero, List.set_cons_succ])
          refine take_yes (i := 5) (v := ?vl06) (d := some 20) rfl rfl (by kernel_rfl) (by kernel_rfl) (by kernel_rfl) (fun _ _ _ h => h) (by rfl) ?yl06 (by assumption) ?rl06
          case yl06 =>
            intro w hSw
            (try dsimp only at hSw)
            go_simp
            try with_reducible rfl
          (try simp only [Act.put, List.setIfInBounds_toArray, List.set_cons_zero, List.set_cons_succ])
          refine take_yes (i := 6) (v := ?vl07) (d := some 21) rfl rfl (by kernel_rfl) (by kernel_rfl) (by kernel_rfl) (fun _ _ _ h => h) (by rfl) ?yl07 (by assumption) ?rl07
          case yl07 =>
            intro w hSw
            (try dsimp only at hSw)
            go_simp
            try with_reducible rfl
          (try simp only [Act.put, List.setIfInBounds_toArray, List.set_cons_zero, List.set_cons_succ])
          refine take_yes (i := 7) (v := ?vl08) (d := some 22) rfl rfl (by kernel_rfl) (by kernel_rfl) (by kernel_rfl) (fun _ _ _ h => h) (by rfl) ?yl08 (by assumption) ?rl08
          case yl08 =>
            intro w hSw
            (try dsimp only at hSw)
            go_simp
            try with_reducible rfl
          (try simp only [Act.put, List.setIfInBounds_toArray, List.set_cons_zero, List.set_cons_succ])
          refine wpAnyH_ready (rs := [8]) (by kernel_rfl) (by simp) ?_
          refine AllReadyH.cons (o := _) rfl (fun K hK => ?_) AllReadyH.nil
          go_simp
          refine (s_l11Less _ _ _ _ _ _ _).mono ?_
          rintro e wl09 ⟨rfl, hbA⟩
          rw [hle]
          (try go_wp2_with fail)
          refine hK.out _ _ ?_ (fun hHeld => ?_)
          · (try dsimp only)
            (refine and_keep ?_ (fun hB => ⟨⟨held_cell hB s0 ksl, held_cell hB s1 ksl, held_cell hB s2 ksl⟩, held_cell hB c0 gz, held_cell hB c1 gz, held_cell hB c2 gz⟩); (repeat' (first | with_reducible exact Below.refl _ _ | with_reducible refine bl_alloc ?_ _ | with_reducible refine bl_set ?_ ?_ _ | exact (Below.refl _ _).drew | with_reducible refine bl_drew ?_ | with_reducible refine btr ?_ hbA | omega | (simp; done) | (simp; omega))))
          clear hK K
          (try simp only [Act.put, List.setIfInBounds_toArray, List.set_cons_zero, List.set_cons_succ])
          refine take_yes (i := 9) (v := ?vl010) (d := some 24) rfl rfl (by kernel_rfl) (by kernel_rfl) (by kernel_rfl) (fun _ _ _ h => h) (by rfl) ?yl010 (by assumption) ?rl010
          case yl010 =>
            intro w hSw
            (try dsimp only at hSw)
            go_simp
            try with_reducible rfl
          (try simp only [Act.put, List.setIfInBounds_toArray, List.set_cons_zero, List.set_cons_succ])
          refine wpAnyH_done (by kernel_rfl) ?_ _
          have hE : Below wr.heap.size wr (wl09) := (btr (bl_drew (Below.refl _ _)) hbA)
          have BE : Below z.heap.size z (wl09) := btr HB.out hE
          have OE : Shells (wl09) z.heap.size u5 ys := SRow.kept HO.out hE
          have KE := blk_later hE HKr.out
          have d0 := held_cell hE c0 gz
          have d1 := held_cell hE c1 gz
          have d2 := held_cell hE c2 gz
          have gE : g < (wl09).heap.size := Nat.lt_of_lt_of_le gz hE.size
          generalize wl09 = zr at *
          obtain ⟨t0, t1, t2, _, _, _⟩ := blk3 KE
          have HKE := Lib.hid KE
          have HBE := Lib.hid BE
          have hsE := BE.size
          clear hE BE KE c0 c1 c2 s0 s1 s2 HO hO
          obtain ⟨hi, hz0, hz1, hz2⟩ := HI.out
          have hl2 : ys.length ≤ 200 := by (try simp at hy); omega
          unfold Shells SRow at OE
          have hO := OE
          clear OE
          go_wp2_with (at_builtin; refine wpList_append_own _ rfl _ _ 44 rfl z.heap.size 51 i0 (.agg #[.int .i64 0, .int .i64 0, .int .i64 0]) 3 24 Try.underlying44 hi hz0 hz1 hz2 rfl (by decide) _ _ _ rfl (hO.alloc _) ⟨zr.heap.size, 0, none⟩ 1 1 (scs (N2, L2, C2)) rfl rfl ?c1p0c ?c2p0c ?c3p0c ?c4p0c ?c5p0c ?_)
          case c1p0c => first | exact cells_new3 _ _ _ _ _ | exact fun _ _ h => h
          case c2p0c => intro u hu; simp [scs] at hu; rcases hu with rfl | rfl | rfl <;> rfl
          case c3p0c => unfold maxLen; omega
          case c4p0c => omega
          case c5p0c => first | omega | (simp; omega)
          intro v2 x2 hown' hgrow _
          have A1 : Shells x2 z.heap.size v2 (ys ++ [(N2, L2, C2)]) := SRow.app hown'
          have A2 : Below z.heap.size z x2 := app_below HBE.out hO hgrow (Nat.le_refl _) hsE
          have H1 := Lib.hid A1
          have H2 := Lib.hid A2
          clear A1 A2 hown' hgrow hO
          go_wp2_with fail
          go_roundw
          case rel => exact ⟨k + 1, _, _, by omega, by go_num, rfl, by rw [List.length_append]; simp at hy ⊢; omega, H1.out, H2.out⟩
          case measure => simp [intOf]; omega
        · skip
          refine wp_region_held_drew (S := (fun w' => Below wr.heap.size wr w' ∧ (w'.cell? ⟨w.heap.size, 0, none⟩ = some (.int .i64 N) ∧ w'.cell? ⟨w.heap.size, 1, none⟩ = some (.int .i64 L) ∧ w'.cell? ⟨w.heap.size, 2, none⟩ = some (.int .i64 C)) ∧ w'.cell? ⟨g, k * 3, none⟩ = some (.int .i64 N2) ∧ w'.cell? ⟨g, k * 3 + 1, none⟩ = some (.int .i64 L2) ∧ w'.cell? ⟨g, k * 3 + 2, none⟩ = some (.int .i64 C2))) (by kernel_rfl) ?_ (fun hHeld => ?_)
          · (try dsimp only)
            (refine and_keep ?_ (fun hB => ⟨⟨held_cell hB s0 ksl, held_cell hB s1 ksl, held_cell hB s2 ksl⟩, held_cell hB c0 gz, held_cell hB c1 gz, held_cell hB c2 gz⟩); (repeat' (first | with_reducible exact Below.refl _ _ | with_reducible refine bl_alloc ?_ _ | with_reducible refine bl_set ?_ ?_ _ | exact (Below.refl _ _).drew | with_reducible refine bl_drew ?_ | with_reducible refine btr ?_ hbA | omega | (simp; done) | (simp; omega))))
          refine take_yes (i := 0) (v := ?vl11) (d := some 15) rfl rfl (by kernel_rfl) (by kernel_rfl) (by kernel_rfl) (fun _ _ _ h => h) (by rfl) ?yl11 (by assumption) ?rl11
          case yl11 =>
            intro w hSw
            (try dsimp only at hSw)
            go_simp
            try with_reducible rfl
          (try simp only [Act.put, List.setIfInBounds_toArray, List.set_cons_zero, List.set_cons_succ])
          refine take_yes (i := 1) (v := ?vl12) (d := some 16) rfl rfl (by kernel_rfl) (by kernel_rfl) (by kernel_rfl) (fun _ _ _ h => h) (by rfl) ?yl12 (by assumption) ?rl12
          case yl12 =>
            intro w hSw
            (try dsimp only at hSw)
            go_simp
            try with_reducible rfl
          (try simp only [Act.put, List.setIfInBounds_toArray, List.set_cons_zero, List.set_cons_succ])
          refine take_yes (i := 2) (v := ?vl13) (d := some 17) rfl rfl (by kernel_rfl) (by kernel_rfl) (by kernel_rfl) (fun _ _ _ h => h) (by rfl) ?yl13 (by assumption) ?rl13
          case yl13 =>
            intro w hSw
            (try dsimp only at hSw)
            go_simp
            try with_reducible rfl
          (try simp only [Act.put, List.setIfInBounds_toArray, List.set_cons_zero, List.set_cons_succ])
          refine take_yes (i := 3) (v := ?vl14) (d := some 18) rfl rfl (by kernel_rfl) (by kernel_rfl) (by kernel_rfl) (fun _ _ _ h => h) (by rfl) ?yl14 (by assumption) ?rl14
          case yl14 =>
            intro w hSw
            (try dsimp only at hSw)
            go_simp
            try with_reducible rfl
          (try simp only [Act.put, List.setIfInBounds_toArray, List.set_cons_zero, List.set_cons_succ])
          refine take_yes (i := 4) (v := ?vl15) (d := some 19) rfl rfl (by kernel_rfl) (by kernel_rfl) (by kernel_rfl) (fun _ _ _ h => h) (by rfl) ?yl15 (by assumption) ?rl15
          case yl15 =>
            intro w hSw
            (try dsimp only at hSw)
            go_simp
            try with_reducible rfl
          (try simp only [Act.put, List.setIfInBounds_toArray, List.set_cons_zero, List.set_cons_succ])
          refine take_yes (i := 5) (v := ?vl16) (d := some 20) rfl rfl (by kernel_rfl) (by kernel_rfl) (by kernel_rfl) (fun _ _ _ h => h) (by rfl) ?yl16 (by assumption) ?rl16
          case yl16 =>
            intro w hSw
            (try dsimp only at hSw)
            go_simp
            try with_reducible rfl
          (try simp only [Act.put, List.setIfInBounds_toArray, List.set_cons_zero, List.set_cons_succ])
          refine take_yes (i := 6) (v := ?vl17) (d := some 21) rfl rfl (by kernel_rfl) (by kernel_rfl) (by kernel_rfl) (fun _ _ _ h => h) (by rfl) ?yl17 (by assumption) ?rl17
          case yl17 =>
            intro w hSw
            (try dsimp only at hSw)
            go_simp
            try with_reducible rfl
          (try simp only [Act.put, List.setIfInBounds_toArray, List.set_cons_zero, List.set_cons_succ])
          refine take_yes (i := 7) (v := ?vl18) (d := some 22) rfl rfl (by kernel_rfl) (by kernel_rfl) (by kernel_rfl) (fun _ _ _ h => h) (by rfl) ?yl18 (by assumption) ?rl18
          case yl18 =>
            intro w hSw
            (try dsimp only at hSw)
            go_simp
            try with_reducible rfl
          (try simp only [Act.put, List.setIfInBounds_toArray, List.set_cons_zero, List.set_cons_succ])
          refine wpAnyH_ready (rs := [8]) (by kernel_rfl) (by simp) ?_
          refine AllReadyH.cons (o := _) rfl (fun K hK => ?_) AllReadyH.nil
          go_simp
          refine (s_l11Less _ _ _ _ _ _ _).mono ?_
          rintro e wl19 ⟨rfl, hbA⟩
          rw [hle]
          (try go_wp2_with fail)
          refine hK.out _ _ ?_ (fun hHeld => ?_)
          · (try dsimp only)
            (refine and_keep ?_ (fun hB => ⟨⟨held_cell hB s0 ksl, held_cell hB s1 ksl, held_cell hB s2 ksl⟩, held_cell hB c0 gz, held_cell hB c1 gz, held_cell hB c2 gz⟩); (repeat' (first | with_reducible exact Below.refl _ _ | with_reducible refine bl_alloc ?_ _ | with_reducible refine bl_set ?_ ?_ _ | exact (Below.refl _ _).drew | with_reducible refine bl_drew ?_ | with_reducible refine btr ?_ hbA | omega | (simp; done) | (simp; omega))))
          clear hK K
          (try simp only [Act.put, List.setIfInBounds_toArray, List.set_cons_zero, List.set_cons_succ])
          refine take_yes (i := 9) (v := ?vl110) (d := some 24) rfl rfl (by kernel_rfl) (by kernel_rfl) (by kernel_rfl) (fun _ _ _ h => h) (by rfl) ?yl110 (by assumption) ?rl110
          case yl110 =>
            intro w hSw
            (try dsimp only at hSw)
            go_simp
            try with_reducible rfl
          (try simp only [Act.put, List.setIfInBounds_toArray, List.set_cons_zero, List.set_cons_succ])
          refine wpAnyH_done (by kernel_rfl) ?_ _
          have hE : Below wr.heap.size wr (wl19) := (btr (bl_drew (Below.refl _ _)) hbA)
          have BE : Below z.heap.size z (wl19) := btr HB.out hE
          have OE : Shells (wl19) z.heap.size u5 ys := SRow.kept HO.out hE
          have KE := blk_later hE HKr.out
          have d0 := held_cell hE c0 gz
          have d1 := held_cell hE c1 gz
          have d2 := held_cell hE c2 gz
          have gE : g < (wl19).heap.size := Nat.lt_of_lt_of_le gz hE.size
          generalize wl19 = zr at *
          obtain ⟨t0, t1, t2, _, _, _⟩ := blk3 KE
          have HKE := Lib.hid KE
          have HBE := Lib.hid BE
          have hsE := BE.size
          clear hE BE KE c0 c1 c2 s0 s1 s2 HO hO
          obtain ⟨hi, hz0, hz1, hz2⟩ := HI.out
          have hl1 : ys.length ≤ 200 := by (try simp at hy); omega
          unfold Shells SRow at OE
          have hO := OE
          clear OE
          go_wp2_with (at_builtin; refine wpList_append_own _ rfl _ _ 44 rfl z.heap.size 51 i0 (.agg #[.int .i64 0, .int .i64 0, .int .i64 0]) 3 24 Try.underlying44 hi hz0 hz1 hz2 rfl (by decide) _ _ _ rfl (hO.alloc _) ⟨zr.heap.size, 0, none⟩ 1 1 (scs (N, L, C)) rfl rfl ?c1p1a ?c2p1a ?c3p1a ?c4p1a ?c5p1a ?_)
          case c1p1a => first | exact cells_new3 _ _ _ _ _ | exact fun _ _ h => h
          case c2p1a => intro u hu; simp [scs] at hu; rcases hu with rfl | rfl | rfl <;> rfl
          case c3p1a => unfold maxLen; omega
          case c4p1a => omega
          case c5p1a => first | omega | (simp; omega)
          intro v1 x1 hown' hgrow _
          have OE : Shells x1 z.heap.size v1 (ys ++ [(N, L, C)]) := SRow.app hown'
          have BE : Below z.heap.size z x1 := app_below HBE.out hO hgrow (Nat.le_refl _) hsE
          have e0 : x1.cell? ⟨g, k * 3, none⟩ = some (.int .i64 N2) := grown_cell hgrow (by rw [World.cell?_alloc_past _ _ _ gE]; exact d0) (by simp; omega) (own_far hO (by omega))
          have e1 : x1.cell? ⟨g, k * 3 + 1, none⟩ = some (.int .i64 L2) := grown_cell hgrow (by rw [World.cell?_alloc_past _ _ _ gE]; exact d1) (by simp; omega) (own_far hO (by omega))
          have e2 : x1.cell? ⟨g, k * 3 + 2, none⟩ = some (.int .i64 C2) := grown_cell hgrow (by rw [World.cell?_alloc_past _ _ _ gE]; exact d2) (by simp; omega) (own_far hO (by omega))
          have HBE2 := Lib.hid BE
          have hsE2 := BE.size
          have hl2 : (ys ++ [(N, L, C)]).length ≤ 200 := by simp; (try simp at hy); omega
          have hy2 : (ys ++ [(N, L, C)]).length ≤ k + 1 := by simp; (try simp at hy); omega
          clear BE hown' hgrow hO d0 d1 d2 t0 t1 t2
          generalize ys ++ [(N, L, C)] = ys2 at *
          unfold Shells SRow at OE
          have hO := OE
          clear OE
          go_wp2_with (at_builtin; refine wpList_append_own _ rfl _ _ 44 rfl z.heap.size 51 i0 (.agg #[.int .i64 0, .int .i64 0, .int .i64 0]) 3 24 Try.underlying44 hi hz0 hz1 hz2 rfl (by decide) _ _ _ rfl (hO.alloc _) ⟨x1.heap.size, 0, none⟩ 1 1 (scs (N2, L2, C2)) rfl rfl ?c1p1b ?c2p1b ?c3p1b ?c4p1b ?c5p1b ?_)
          case c1p1b => first | exact cells_new3 _ _ _ _ _ | exact fun _ _ h => h
          case c2p1b => intro u hu; simp [scs] at hu; rcases hu with rfl | rfl | rfl <;> rfl
          case c3p1b => unfold maxLen; omega
          case c4p1b => omega
          case c5p1b => first | omega | (simp; omega)
          intro v2 x2 hown' hgrow _
          have A1 : Shells x2 z.heap.size v2 (ys2 ++ [(N2, L2, C2)]) := SRow.app hown'
          have A2 : Below z.heap.size z x2 := app_below HBE2.out hO hgrow (Nat.le_refl _) hsE2
          have H1 := Lib.hid A1
          have H2 := Lib.hid A2
          clear A1 A2 hown' hgrow hO
          go_wp2_with fail
          go_roundw
          case rel => exact ⟨k + 1, _, true, by omega, by go_num, rfl, by rw [List.length_append]; simp; omega, H1.out, H2.out⟩
          case measure => simp [intOf]; omega
      · skip
        refine wp_region_held_drew (S := (fun w' => Below wr.heap.size wr w' ∧ (w'.cell? ⟨w.heap.size, 0, none⟩ = some (.int .i64 N) ∧ w'.cell? ⟨w.heap.size, 1, none⟩ = some (.int .i64 L) ∧ w'.cell? ⟨w.heap.size, 2, none⟩ = some (.int .i64 C)) ∧ w'.cell? ⟨g, k * 3, none⟩ = some (.int .i64 N2) ∧ w'.cell? ⟨g, k * 3 + 1, none⟩ = some (.int .i64 L2) ∧ w'.cell? ⟨g, k * 3 + 2, none⟩ = some (.int .i64 C2))) (by kernel_rfl) ?_ (fun hHeld => ?_)
        · (try dsimp only)
          (refine and_keep ?_ (fun hB => ⟨⟨held_cell hB s0 ksl, held_cell hB s1 ksl, held_cell hB s2 ksl⟩, held_cell hB c0 gz, held_cell hB c1 gz, held_cell hB c2 gz⟩); (repeat' (first | with_reducible exact Below.refl _ _ | with_reducible refine bl_alloc ?_ _ | with_reducible refine bl_set ?_ ?_ _ | exact (Below.refl _ _).drew | with_reducible refine bl_drew ?_ | with_reducible refine btr ?_ hbA | omega | (simp; done) | (simp; omega))))
        refine take_yes (i := 0) (v := ?vm1) (d := some 15) rfl rfl (by kernel_rfl) (by kernel_rfl) (by kernel_rfl) (fun _ _ _ h => h) (by rfl) ?ym1 (by assumption) ?rm1
        case ym1 =>
          intro w hSw
          (try dsimp only at hSw)
          go_simp
          try with_reducible rfl
        (try simp only [Act.put, List.setIfInBounds_toArray, List.set_cons_zero, List.set_cons_succ])
        refine take_yes (i := 1) (v := ?vm2) (d := some 16) rfl rfl (by kernel_rfl) (by kernel_rfl) (by kernel_rfl) (fun _ _ _ h => h) (by rfl) ?ym2 (by assumption) ?rm2
        case ym2 =>
          intro w hSw
          (try dsimp only at hSw)
          go_simp
          try with_reducible rfl
        (try simp only [Act.put, List.setIfInBounds_toArray, List.set_cons_zero, List.set_cons_succ])
        refine take_yes (i := 2) (v := ?vm3) (d := some 17) rfl rfl (by kernel_rfl) (by kernel_rfl) (by kernel_rfl) (fun _ _ _ h => h) (by rfl) ?ym3 (by assumption) ?rm3
        case ym3 =>
          intro w hSw
          (try dsimp only at hSw)
          go_simp
          try with_reducible rfl
        (try simp only [Act.put, List.setIfInBounds_toArray, List.set_cons_zero, List.set_cons_succ])
        refine take_no (i := 3) (d := some 18) rfl rfl (by kernel_rfl) (by kernel_rfl) (by kernel_rfl) (fun _ _ _ h => h) (by rfl) (by assumption) ?_
        (try simp only [Act.put, List.setIfInBounds_toArray, List.set_cons_zero, List.set_cons_succ])
        refine take_no (i := 4) (d := some 19) rfl rfl (by kernel_rfl) (by kernel_rfl) (by kernel_rfl) (fun _ _ _ h => h) (by rfl) (by assumption) ?_
        (try simp only [Act.put, List.setIfInBounds_toArray, List.set_cons_zero, List.set_cons_succ])
        refine take_no (i := 5) (d := some 20) rfl rfl (by kernel_rfl) (by kernel_rfl) (by kernel_rfl) (fun _ _ _ h => h) (by rfl) (by assumption) ?_
        (try simp only [Act.put, List.setIfInBounds_toArray, List.set_cons_zero, List.set_cons_succ])
        refine take_no (i := 6) (d := some 21) rfl rfl (by kernel_rfl) (by kernel_rfl) (by kernel_rfl) (fun _ _ _ h => h) (by rfl) (by assumption) ?_
        (try simp only [Act.put, List.setIfInBounds_toArray, List.set_cons_zero, List.set_cons_succ])
        refine take_no (i := 7) (d := some 22) rfl rfl (by kernel_rfl) (by kernel_rfl) (by kernel_rfl) (fun _ _ _ h => h) (by rfl) (by assumption) ?_
        (try simp only [Act.put, List.setIfInBounds_toArray, List.set_cons_zero, List.set_cons_succ])
        refine take_no (i := 8) (d := some 23) rfl rfl (by kernel_rfl) (by kernel_rfl) (by kernel_rfl) (fun _ _ _ h => h) (by rfl) (by assumption) ?_
        (try simp only [Act.put, List.setIfInBounds_toArray, List.set_cons_zero, List.set_cons_succ])
        refine take_yes (i := 9) (v := ?vm4) (d := some 24) rfl rfl (by kernel_rfl) (by kernel_rfl) (by kernel_rfl) (fun _ _ _ h => h) (by rfl) ?ym4 (by assumption) ?rm4
        case ym4 =>
          intro w hSw
          (try dsimp only at hSw)
          go_simp
          try with_reducible rfl
        (try simp only [Act.put, List.setIfInBounds_toArray, List.set_cons_zero, List.set_cons_succ])
        refine wpAnyH_done (by kernel_rfl) ?_ _
        have hE : Below wr.heap.size wr (wr.drew) := (bl_drew (Below.refl _ _))
        have BE : Below z.heap.size z (wr.drew) := btr HB.out hE
        have OE : Shells (wr.drew) z.heap.size u5 ys := SRow.kept HO.out hE
        have KE := blk_later hE HKr.out
        have d0 := held_cell hE c0 gz
        have d1 := held_cell hE c1 gz
        have d2 := held_cell hE c2 gz
        have gE : g < (wr.drew).heap.size := Nat.lt_of_lt_of_le gz hE.size
        generalize wr.drew = zr at *
        obtain ⟨t0, t1, t2, _, _, _⟩ := blk3 KE
        have HKE := Lib.hid KE
        have HBE := Lib.hid BE
        have hsE := BE.size
        clear hE BE KE c0 c1 c2 s0 s1 s2 HO hO
        obtain ⟨hi, hz0, hz1, hz2⟩ := HI.out
        have hl2 : ys.length ≤ 200 := by (try simp at hy); omega
        unfold Shells SRow at OE
        have hO := OE
        clear OE
        go_wp2_with (at_builtin; refine wpList_append_own _ rfl _ _ 44 rfl z.heap.size 51 i0 (.agg #[.int .i64 0, .int .i64 0, .int .i64 0]) 3 24 Try.underlying44 hi hz0 hz1 hz2 rfl (by decide) _ _ _ rfl (hO.alloc _) ⟨zr.heap.size, 0, none⟩ 1 1 (scs (N2, L2, C2)) rfl rfl ?c1qc ?c2qc ?c3qc ?c4qc ?c5qc ?_)
        case c1qc => first | exact cells_new3 _ _ _ _ _ | exact fun _ _ h => h
        case c2qc => intro u hu; simp [scs] at hu; rcases hu with rfl | rfl | rfl <;> rfl
        case c3qc => unfold maxLen; omega
        case c4qc => omega
        case c5qc => first | omega | (simp; omega)
        intro v2 x2 hown' hgrow _
        have A1 : Shells x2 z.heap.size v2 (ys ++ [(N2, L2, C2)]) := SRow.app hown'
        have A2 : Below z.heap.size z x2 := app_below HBE.out hO hgrow (Nat.le_refl _) hsE
        have H1 := Lib.hid A1
        have H2 := Lib.hid A2
        clear A1 A2 hown' hgrow hO
        go_wp2_with fail
        go_roundw
        case rel => exact ⟨k + 1, _, _, by omega, by go_num, rfl, by rw [List.length_append]; simp at hy ⊢; omega, H1.out, H2.out⟩
        case measure => simp [intOf]; omega
    · obtain rfl : k = xs.length := by omega
      cases q
      · have hl2 : ys.length ≤ 200 := by simp at hy; omega
        obtain ⟨hi, hz0, hz1, hz2⟩ := HI.out
        unfold Shells SRow at hO
        clear hB
        go_wp2_with (at_builtin; refine wpList_append_own _ rfl _ _ 44 rfl z.heap.size 51 i0 (.agg #[.int .i64 0, .int .i64 0, .int .i64 0]) 3 24 Try.underlying44 hi hz0 hz1 hz2 rfl (by decide) _ _ _ rfl (hO.alloc _) ⟨wr.heap.size, 0, none⟩ 1 1 (scs (N, L, C)) rfl rfl ?c1e ?c2e ?c3e ?c4e ?c5e ?_)
        case c1e => first | exact cells_new3 _ _ _ _ _ | exact fun _ _ h => h
        case c2e => intro u hu; simp [scs] at hu; rcases hu with rfl | rfl | rfl <;> rfl
        case c3e => unfold maxLen; omega
        case c4e => omega
        case c5e => first | omega | (simp; omega)
        intro v2 x2 hown' hgrow _
        have A1 : Shells x2 z.heap.size v2 (ys ++ [(N, L, C)]) := SRow.app hown'
        have A2 : Below z.heap.size z x2 := app_below HB.out hO hgrow (Nat.le_refl _) hs
        have H1 := Lib.hid A1
        have H2 := Lib.hid A2
        clear A1 A2 hown' hgrow hO
        go_wp2_with fail
        go_ret
        exact ⟨_, rfl, ⟨_, SRow.lower H1.out (by omega), by rw [List.length_append]; simp at hy ⊢; omega⟩, btr HBz.out H2.out⟩
      · go_wp2_with fail
        go_ret
        exact ⟨_, rfl, ⟨_, SRow.lower HO.out (by omega), by simpa using hy⟩, btr HBz.out HB.out⟩


/-- What ConfigGround leaves. -/
def RGround (w : World) (e : Ending) (w' : World) : Prop := ∃ v', e = .returned (.tuple #[v', .bool true]) ∧ SomeSh w' w.heap.size v' 19 ∧ Below w.heap.size w w'
set_option maxRecDepth 100000 in
set_option maxHeartbeats 2000000 in
theorem s_ConfigGround (n : Int) (w : World) (h1 : 1 ≤ n) (h2 : n ≤ 118) :
    Calls Try.prog 47 #[.int .i64 n] w (RGround w) := by
  have hb0 : inB n 1 118 = true := inB_true h1 h2
  go_enter Try.func47, Try.ntmps47
  go_wp2_with (go_at_call 60; refine (s_l6In _ _ _ _).mono ?_; rintro e w' ⟨rfl, rfl⟩; rw [hb0])
  go_loopw [4, 5, 6] (fun v l c wr => ∃ (k : Nat) (left : Int), k ≤ 19 ∧ c = .int .i64 k ∧ l = .int .i64 left ∧ (0 ≤ left ∧ left ≤ 118) ∧ SomeSh wr w.heap.size v k ∧ Below w.heap.size w wr) (fun _ _ c _ => 19 - (intOf c).toNat)
  case atStart => exact ⟨0, n, Nat.zero_le _, rfl, rfl, by omega, ⟨[], SRow.empty _, by simp⟩, bl_alloc (Below.refl _ _) _⟩
  case round =>
    obtain ⟨k, left, hk, rfl, rfl, ⟨l0, l1⟩, ⟨xs, hO, hx⟩, hB⟩ := hrel
    have HO := Lib.hid hO
    have HB := Lib.hid hB
    have hs := hB.size
    clear hO hB
    by_cases hlt : k < 19
    · by_cases hl : 0 < left
      · go_wp2_with fail
        refine (s_ShellAt k _ hlt).mono ?_
        rintro e w1 ⟨N, L, C, rfl, ⟨C0, C1⟩, hb1⟩
        have O1 := SRow.kept HO.out hb1
        have HB1 : Hid (Below w.heap.size w w1) := Lib.hid (btr HB.out hb1)
        have HO1 := Lib.hid O1
        clear hb1 O1
        by_cases hm : C ≤ left
        · go_wp2_with fail
          refine (s_l11Put u4 xs _ _ _ _ _ (SRow.alloc HO1.out _) (by omega)).mono ?_
          rintro e w2 ⟨v2, rfl, ⟨ys, hO2, hy⟩, hb2⟩
          have H2 : Hid (Shells w2 w.heap.size v2 ys) := Lib.hid (SRow.lower hO2 (by have := HB1.out.size; simp; omega))
          have HB2 : Hid (Below w.heap.size w w2) := Lib.hid (btr (bl_alloc HB1.out _) hb2)
          clear hO2 hb2
          go_wp2_with fail
          go_roundw
          case rel => exact ⟨k + 1, left - C, by omega, by go_num, rfl, by omega, ⟨ys, H2.out, by omega⟩, HB2.out⟩
          case measure => simp [intOf]; omega
        · have hm2 : left < C := by omega
          go_wp2_with fail
          refine (s_l11Put u4 xs _ _ _ _ _ (SRow.alloc HO1.out _) (by omega)).mono ?_
          rintro e w2 ⟨v2, rfl, ⟨ys, hO2, hy⟩, hb2⟩
          have H2 : Hid (Shells w2 w.heap.size v2 ys) := Lib.hid (SRow.lower hO2 (by have := HB1.out.size; simp; omega))
          have HB2 : Hid (Below w.heap.size w w2) := Lib.hid (btr (bl_alloc HB1.out _) hb2)
          clear hO2 hb2
          go_wp2_with fail
          go_roundw
          case rel => exact ⟨k + 1, left - left, by omega, by go_num, by first | rfl | simp, by omega, ⟨ys, H2.out, by omega⟩, HB2.out⟩
          case measure => simp [intOf]; omega
      · have hl2 : left ≤ 0 := by omega
        go_wp2_with fail
        go_ret2
        exact ⟨_, rfl, ⟨xs, HO.out, by omega⟩, HB.out⟩
    · go_wp2_with fail
      go_ret2
      exact ⟨_, rfl, ⟨xs, HO.out, by omega⟩, HB.out⟩

end Go.Proofs.Ytpdhbilghmejiaa
