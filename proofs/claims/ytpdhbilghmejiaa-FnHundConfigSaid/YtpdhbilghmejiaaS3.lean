/- ConfigValid of the program. -/
import Derived.Test.YtpdhbilghmejiaaS2
import Derived.Test.YtpdhbilghmejiaaTk
namespace Go.Proofs.Ytpdhbilghmejiaa
open Go.RowKit
set_option linter.unusedVariables false

abbrev Sh := Int × Int × Int
/-- The cells of a shell. -/
def scs (p : Sh) : List Value := [.int .i64 p.1, .int .i64 p.2.1, .int .i64 p.2.2]
theorem scs_len (p : Sh) : (scs p).length = 3 := rfl
def Shells (w : World) (b : Nat) (v : Value) (xs : List Sh) : Prop := SRow 51 3 scs w b v xs
def shAt (xs : List Sh) (i : Nat) : Sh := xs.getD i (0, 0, 0)
theorem shAt_get {xs : List Sh} {i : Nat} (h : i < xs.length) : xs[i]? = some (shAt xs i) := by
  rw [shAt, List.getD_eq_getElem?_getD, List.getElem?_eq_getElem h]; rfl
def shOk (p : Sh) : Bool := shB p.1 p.2.1 p.2.2
def shLess (p q : Sh) : Bool := lessB p.1 p.2.1 q.1 q.2.1
def okAt (xs : List Sh) (i : Nat) : Bool := shOk (shAt xs i) && (decide (i = 0) || shLess (shAt xs (i - 1)) (shAt xs i))
/-- The shells are those of a configuration. -/
def cfgB (xs : List Sh) : Bool := (List.range xs.length).all (okAt xs) && decide (0 < xs.length)
theorem cfg_true {xs : List Sh} (h : ∀ i, i < xs.length → okAt xs i = true) : cfgB xs = decide (0 < xs.length) := by
  have : (List.range xs.length).all (okAt xs) = true := List.all_eq_true.2 fun i hi => h i (List.mem_range.1 hi)
  rw [cfgB, this]; rfl
theorem cfg_false {xs : List Sh} {i : Nat} (hi : i < xs.length) (h : okAt xs i = false) : cfgB xs = false := by
  have : (List.range xs.length).all (okAt xs) = false := by
    rw [Bool.eq_false_iff]
    intro e
    have := List.all_eq_true.1 e i (List.mem_range.2 hi)
    rw [h] at this; cases this
  rw [cfgB, this]; rfl
theorem cfg_at {xs : List Sh} (h : cfgB xs = true) : (∀ i, i < xs.length → okAt xs i = true) ∧ 0 < xs.length := by
  unfold cfgB at h
  rw [Bool.and_eq_true, List.all_eq_true] at h
  exact ⟨fun i hi => h.1 i (List.mem_range.2 hi), of_decide_eq_true h.2⟩

/-- What an argument gives: the slice's form and its cells. -/
theorem Shells.opened {w : World} {b : Nat} {v : Value} {xs : List Sh} (h : Shells w b v xs) :
    ∃ a cap, v = .slice a xs.length cap ∧ (xs = [] ∨ ∃ g, a = some ⟨g, 0, none⟩ ∧ b ≤ g ∧ g < w.heap.size ∧ ∀ j, j < xs.length → w.cell? ⟨g, j * 3, none⟩ = some (.int .i64 (shAt xs j).1) ∧ w.cell? ⟨g, j * 3 + 1, none⟩ = some (.int .i64 (shAt xs j).2.1) ∧ w.cell? ⟨g, j * 3 + 2, none⟩ = some (.int .i64 (shAt xs j).2.2)) := by
  obtain ⟨a, cap, hv, _, hc⟩ := SRow.opened scs_len h
  refine ⟨a, cap, hv, hc.imp id ?_⟩
  rintro ⟨g, h1, h2, h3, h4⟩
  exact ⟨g, h1, h2, h3, fun j hj => ⟨h4 j 0 _ _ (shAt_get hj) rfl, h4 j 1 _ _ (shAt_get hj) rfl, h4 j 2 _ _ (shAt_get hj) rfl⟩⟩

set_option maxRecDepth 100000 in
set_option maxHeartbeats 2000000 in
theorem i_ConfigValid (v : Value) (xs : List Sh) (b : Nat) (w : World) (hv : Shells w b v xs) (hn : xs.length ≤ 2000000) :
    Calls Try.prog 43 #[v] w fun e w' => e = .returned (.bool (cfgB xs)) ∧ Below w.heap.size w w' := by
  obtain ⟨a, cap, rfl, hc⟩ := Shells.opened hv
  clear hv
  have HC := Lib.hid hc
  clear hc
  go_enter Try.func43, Try.ntmps43
  go_wp2_with fail
  go_loopw [7] (fun c wr => ∃ k : Nat, k ≤ xs.length ∧ c = .int .i64 k ∧ (∀ i, i < k → okAt xs i = true) ∧ Below w.heap.size w wr) (fun c _ => xs.length - (intOf c).toNat)
  case atStart => exact ⟨0, Nat.zero_le _, rfl, fun i hi => by omega, Below.refl _ _⟩
  case round =>
    obtain ⟨k, hk, rfl, hall, hB⟩ := hrel
    have HA := Lib.hid hall
    have HB := Lib.hid hB
    have hs := hB.size
    clear hall
    by_cases hlt : k < xs.length
    · rcases HC.out with h | ⟨g, rfl, hg1, hg2, hg⟩
      · subst h; simp at hlt
      obtain ⟨a0, a1, a2⟩ := hg k hlt
      have b0 : wr.cell? ⟨g, k * 3, none⟩ = some (.int .i64 (shAt xs k).1) := by rw [hB.cell (p := ⟨g, k * 3, none⟩) hg2]; exact a0
      have b1 : wr.cell? ⟨g, k * 3 + 1, none⟩ = some (.int .i64 (shAt xs k).2.1) := by rw [hB.cell (p := ⟨g, k * 3 + 1, none⟩) hg2]; exact a1
      have b2 : wr.cell? ⟨g, k * 3 + 2, none⟩ = some (.int .i64 (shAt xs k).2.2) := by rw [hB.cell (p := ⟨g, k * 3 + 2, none⟩) hg2]; exact a2
      have HP : Hid (0 < k → wr.cell? ⟨g, (k - 1) * 3, none⟩ = some (.int .i64 (shAt xs (k - 1)).1) ∧ wr.cell? ⟨g, (k - 1) * 3 + 1, none⟩ = some (.int .i64 (shAt xs (k - 1)).2.1) ∧ wr.cell? ⟨g, (k - 1) * 3 + 2, none⟩ = some (.int .i64 (shAt xs (k - 1)).2.2)) := Lib.hid (fun h0 => by
        obtain ⟨a0, a1, a2⟩ := hg (k - 1) (by omega)
        exact ⟨by rw [hB.cell (p := ⟨g, (k - 1) * 3, none⟩) hg2]; exact a0, by rw [hB.cell (p := ⟨g, (k - 1) * 3 + 1, none⟩) hg2]; exact a1, by rw [hB.cell (p := ⟨g, (k - 1) * 3 + 2, none⟩) hg2]; exact a2⟩)
      clear a0 a1 a2 hg hB
      have hok : okAt xs k = (shOk (shAt xs k) && (decide (k = 0) || shLess (shAt xs (k - 1)) (shAt xs k))) := rfl
      have HOK := Lib.hid hok
      clear hok
      generalize shAt xs k = p at *
      obtain ⟨N, L, C⟩ := p
      generalize shAt xs (k - 1) = q at *
      obtain ⟨N2, L2, C2⟩ := q
      simp only at b0 b1 b2
      go_wp2_with fail
      have Kz : Blk (wr.alloc (.cells #[.int .i64 N, .int .i64 L, .int .i64 C] 51)) wr.heap.size #[.int .i64 N, .int .i64 L, .int .i64 C] := blk_new (by simp)
      have Bz : Below w.heap.size w (wr.alloc (.cells #[.int .i64 N, .int .i64 L, .int .i64 C] 51)) := bl_alloc HB.out _
      have HPz : Hid (0 < k → (wr.alloc (.cells #[.int .i64 N, .int .i64 L, .int .i64 C] 51)).cell? ⟨g, (k - 1) * 3, none⟩ = some (.int .i64 N2) ∧ (wr.alloc (.cells #[.int .i64 N, .int .i64 L, .int .i64 C] 51)).cell? ⟨g, (k - 1) * 3 + 1, none⟩ = some (.int .i64 L2) ∧ (wr.alloc (.cells #[.int .i64 N, .int .i64 L, .int .i64 C] 51)).cell? ⟨g, (k - 1) * 3 + 2, none⟩ = some (.int .i64 C2)) := Lib.hid (fun h0 => by
        obtain ⟨a0, a1, a2⟩ := HP.out h0
        exact ⟨by rw [World.cell?_alloc_past _ _ _ (by omega)]; exact a0, by rw [World.cell?_alloc_past _ _ _ (by omega)]; exact a1, by rw [World.cell?_alloc_past _ _ _ (by omega)]; exact a2⟩)
      have Sz : wr.heap.size < (wr.alloc (.cells #[.int .i64 N, .int .i64 L, .int .i64 C] 51)).heap.size := by simp
      generalize hz : wr.alloc (.cells #[.int .i64 N, .int .i64 L, .int .i64 C] 51) = z at *
      obtain ⟨c0, c1, c2, _, _, _⟩ := blk3 Kz
      have HBz := Lib.hid Bz
      clear hz Kz Bz b0 b1 b2 HP
      have gz : g < z.heap.size := by omega
      cases hsh : shB N L C
      · have hf : okAt xs k = false := by rw [HOK.out]; simp [shOk, hsh]
        have HF := Lib.hid (cfg_false hlt hf)
        clear hf
        refine wp_region_held_drew (S := (fun w' => Below z.heap.size z w' ∧ w'.cell? ⟨wr.heap.size, 0, none⟩ = some (.int .i64 N) ∧ w'.cell? ⟨wr.heap.size, 1, none⟩ = some (.int .i64 L) ∧ w'.cell? ⟨wr.heap.size, 2, none⟩ = some (.int .i64 C))) (by kernel_rfl) ?_ (fun hHeld => ?_)
        · (try dsimp only)
          (refine and_keep ?_ (fun hB => ⟨held_cell hB c0 Sz, held_cell hB c1 Sz, held_cell hB c2 Sz⟩); (repeat' (first | with_reducible exact Below.refl _ _ | with_reducible refine bl_alloc ?_ _ | with_reducible refine bl_set ?_ ?_ _ | exact (Below.refl _ _).drew | with_reducible refine bl_drew ?_ | with_reducible refine btr ?_ hbA | with_reducible refine btr ?_ hbB | omega | (simp; done) | (simp; omega))))
        refine take_yes (i := 0) (v := ?va1) (d := some 12) rfl rfl (by kernel_rfl) (by kernel_rfl) (by kernel_rfl) (fun _ _ _ h => h) (by rfl) ?ya1 (by assumption) ?ra1
        case ya1 =>
          intro w hSw
          (try dsimp only at hSw)
          go_simp
          try with_reducible rfl
        (try simp only [Act.put, List.setIfInBounds_toArray, List.set_cons_zero, List.set_cons_succ])
        refine wpAnyH_ready (rs := [1]) (by kernel_rfl) (by simp) ?_
        refine AllReadyH.cons (o := _) rfl (fun K hK => ?_) AllReadyH.nil
        go_simp
        refine (i_ShellValid _ _ _ _).mono ?_
        rintro e wa2 ⟨rfl, hbA⟩
        rw [hsh]
        (try go_wp2_with fail)
        refine hK.out _ _ ?_ (fun hHeld => ?_)
        · (try dsimp only)
          (refine and_keep ?_ (fun hB => ⟨held_cell hB c0 Sz, held_cell hB c1 Sz, held_cell hB c2 Sz⟩); (repeat' (first | with_reducible exact Below.refl _ _ | with_reducible refine bl_alloc ?_ _ | with_reducible refine bl_set ?_ ?_ _ | exact (Below.refl _ _).drew | with_reducible refine bl_drew ?_ | with_reducible refine btr ?_ hbA | with_reducible refine btr ?_ hbB | omega | (simp; done) | (simp; omega))))
        clear hK K
        (try simp only [Act.put, List.setIfInBounds_toArray, List.set_cons_zero, List.set_cons_succ])
        refine take_yes (i := 2) (v := ?va3) (d := some 14) rfl rfl (by kernel_rfl) (by kernel_rfl) (by kernel_rfl) (fun _ _ _ h => h) (by rfl) ?ya3 (by assumption) ?ra3
        case ya3 =>
          intro w hSw
          (try dsimp only at hSw)
          go_simp
          try with_reducible rfl
        (try simp only [Act.put, List.setIfInBounds_toArray, List.set_cons_zero, List.set_cons_succ])
        refine take_yes (i := 3) (v := ?va4) (d := some 15) rfl rfl (by kernel_rfl) (by kernel_rfl) (by kernel_rfl) (fun _ _ _ h => h) (by rfl) ?ya4 (by assumption) ?ra4
        case ya4 =>
          intro w hSw
          (try dsimp only at hSw)
          go_simp
          try with_reducible rfl
        (try simp only [Act.put, List.setIfInBounds_toArray, List.set_cons_zero, List.set_cons_succ])
        refine take_no (i := 4) (d := some 16) rfl rfl (by kernel_rfl) (by kernel_rfl) (by kernel_rfl) (fun _ _ _ h => h) (by rfl) (by assumption) ?_
        (try simp only [Act.put, List.setIfInBounds_toArray, List.set_cons_zero, List.set_cons_succ])
        refine take_no (i := 5) (d := some 17) rfl rfl (by kernel_rfl) (by kernel_rfl) (by kernel_rfl) (fun _ _ _ h => h) (by rfl) (by assumption) ?_
        (try simp only [Act.put, List.setIfInBounds_toArray, List.set_cons_zero, List.set_cons_succ])
        refine take_no (i := 6) (d := some 18) rfl rfl (by kernel_rfl) (by kernel_rfl) (by kernel_rfl) (fun _ _ _ h => h) (by rfl) (by assumption) ?_
        (try simp only [Act.put, List.setIfInBounds_toArray, List.set_cons_zero, List.set_cons_succ])
        refine take_no (i := 7) (d := some 19) rfl rfl (by kernel_rfl) (by kernel_rfl) (by kernel_rfl) (fun _ _ _ h => h) (by rfl) (by assumption) ?_
        (try simp only [Act.put, List.setIfInBounds_toArray, List.set_cons_zero, List.set_cons_succ])
        refine take_no (i := 8) (d := some 20) rfl rfl (by kernel_rfl) (by kernel_rfl) (by kernel_rfl) (fun _ _ _ h => h) (by rfl) (by assumption) ?_
        (try simp only [Act.put, List.setIfInBounds_toArray, List.set_cons_zero, List.set_cons_succ])
        refine take_no (i := 9) (d := some 21) rfl rfl (by kernel_rfl) (by kernel_rfl) (by kernel_rfl) (fun _ _ _ h => h) (by rfl) (by assumption) ?_
        (try simp only [Act.put, List.setIfInBounds_toArray, List.set_cons_zero, List.set_cons_succ])
        refine take_no (i := 10) (d := some 22) rfl rfl (by kernel_rfl) (by kernel_rfl) (by kernel_rfl) (fun _ _ _ h => h) (by rfl) (by assumption) ?_
        (try simp only [Act.put, List.setIfInBounds_toArray, List.set_cons_zero, List.set_cons_succ])
        refine take_no (i := 11) (d := some 23) rfl rfl (by kernel_rfl) (by kernel_rfl) (by kernel_rfl) (fun _ _ _ h => h) (by rfl) (by assumption) ?_
        (try simp only [Act.put, List.setIfInBounds_toArray, List.set_cons_zero, List.set_cons_succ])
        refine take_no (i := 12) (d := some 24) rfl rfl (by kernel_rfl) (by kernel_rfl) (by kernel_rfl) (fun _ _ _ h => h) (by rfl) (by assumption) ?_
        (try simp only [Act.put, List.setIfInBounds_toArray, List.set_cons_zero, List.set_cons_succ])
        refine take_no (i := 13) (d := some 25) rfl rfl (by kernel_rfl) (by kernel_rfl) (by kernel_rfl) (fun _ _ _ h => h) (by rfl) (by assumption) ?_
        (try simp only [Act.put, List.setIfInBounds_toArray, List.set_cons_zero, List.set_cons_succ])
        refine take_no (i := 14) (d := some 26) rfl rfl (by kernel_rfl) (by kernel_rfl) (by kernel_rfl) (fun _ _ _ h => h) (by rfl) (by assumption) ?_
        (try simp only [Act.put, List.setIfInBounds_toArray, List.set_cons_zero, List.set_cons_succ])
        refine take_no (i := 15) (d := some 27) rfl rfl (by kernel_rfl) (by kernel_rfl) (by kernel_rfl) (fun _ _ _ h => h) (by rfl) (by assumption) ?_
        (try simp only [Act.put, List.setIfInBounds_toArray, List.set_cons_zero, List.set_cons_succ])
        refine take_yes (i := 16) (v := ?va5) (d := some 28) rfl rfl (by kernel_rfl) (by kernel_rfl) (by kernel_rfl) (fun _ _ _ h => h) (by rfl) ?ya5 (by assumption) ?ra5
        case ya5 =>
          intro w hSw
          (try dsimp only at hSw)
          go_simp
          try with_reducible rfl
        (try simp only [Act.put, List.setIfInBounds_toArray, List.set_cons_zero, List.set_cons_succ])
        refine wpAnyH_done (by kernel_rfl) ?_ _
        go_wp2_with fail
        go_ret
        exact ⟨ret_bool (by rw [HF.out]), btr HBz.out (by (repeat' (first | with_reducible exact Below.refl _ _ | with_reducible refine bl_alloc ?_ _ | with_reducible refine bl_set ?_ ?_ _ | exact (Below.refl _ _).drew | with_reducible refine bl_drew ?_ | with_reducible refine btr ?_ hbA | with_reducible refine btr ?_ hbB | omega | (simp; done) | (simp; omega))))⟩
      · by_cases hk0 : k = 0
        · subst hk0
          have hf : okAt xs 0 = true := by rw [HOK.out]; simp [shOk, hsh]
          have HF := Lib.hid hf
          clear hf
          skip
          refine wp_region_held_drew (S := (fun w' => Below z.heap.size z w' ∧ w'.cell? ⟨wr.heap.size, 0, none⟩ = some (.int .i64 N) ∧ w'.cell? ⟨wr.heap.size, 1, none⟩ = some (.int .i64 L) ∧ w'.cell? ⟨wr.heap.size, 2, none⟩ = some (.int .i64 C))) (by kernel_rfl) ?_ (fun hHeld => ?_)
          · (try dsimp only)
            (refine and_keep ?_ (fun hB => ⟨held_cell hB c0 Sz, held_cell hB c1 Sz, held_cell hB c2 Sz⟩); (repeat' (first | with_reducible exact Below.refl _ _ | with_reducible refine bl_alloc ?_ _ | with_reducible refine bl_set ?_ ?_ _ | exact (Below.refl _ _).drew | with_reducible refine bl_drew ?_ | with_reducible refine btr ?_ hbA | with_reducible refine btr ?_ hbB | omega | (simp; done) | (simp; omega))))
          refine take_yes (i := 0) (v := ?vb1) (d := some 12) rfl rfl (by kernel_rfl) (by kernel_rfl) (by kernel_rfl) (fun _ _ _ h => h) (by rfl) ?yb1 (by assumption) ?rb1
          case yb1 =>
            intro w hSw
            (try dsimp only at hSw)
            go_simp
            try with_reducible rfl
          (try simp only [Act.put, List.setIfInBounds_toArray, List.set_cons_zero, List.set_cons_succ])
          refine wpAnyH_ready (rs := [1]) (by kernel_rfl) (by simp) ?_
          refine AllReadyH.cons (o := _) rfl (fun K hK => ?_) AllReadyH.nil
          go_simp
          refine (i_ShellValid _ _ _ _).mono ?_
          rintro e wb2 ⟨rfl, hbA⟩
          rw [hsh]
          (try go_wp2_with fail)
          refine hK.out _ _ ?_ (fun hHeld => ?_)
          · (try dsimp only)
            (refine and_keep ?_ (fun hB => ⟨held_cell hB c0 Sz, held_cell hB c1 Sz, held_cell hB c2 Sz⟩); (repeat' (first | with_reducible exact Below.refl _ _ | with_reducible refine bl_alloc ?_ _ | with_reducible refine bl_set ?_ ?_ _ | exact (Below.refl _ _).drew | with_reducible refine bl_drew ?_ | with_reducible refine btr ?_ hbA | with_reducible refine btr ?_ hbB | omega | (simp; done) | (simp; omega))))
          clear hK K
          (try simp only [Act.put, List.setIfInBounds_toArray, List.set_cons_zero, List.set_cons_succ])
          refine take_yes (i := 2) (v := ?vb3) (d := some 14) rfl rfl (by kernel_rfl) (by kernel_rfl) (by kernel_rfl) (fun _ _ _ h => h) (by rfl) ?yb3 (by assumption) ?rb3
          case yb3 =>
            intro w hSw
            (try dsimp only at hSw)
            go_simp
            try with_reducible rfl
          (try simp only [Act.put, List.setIfInBounds_toArray, List.set_cons_zero, List.set_cons_succ])
          refine take_yes (i := 3) (v := ?vb4) (d := some 15) rfl rfl (by kernel_rfl) (by kernel_rfl) (by kernel_rfl) (fun _ _ _ h => h) (by rfl) ?yb4 (by assumption) ?rb4
          case yb4 =>
            intro w hSw
            (try dsimp only at hSw)
            go_simp
            try with_reducible rfl
          (try simp only [Act.put, List.setIfInBounds_toArray, List.set_cons_zero, List.set_cons_succ])
          refine take_yes (i := 4) (v := ?vb5) (d := some 16) rfl rfl (by kernel_rfl) (by kernel_rfl) (by kernel_rfl) (fun _ _ _ h => h) (by rfl) ?yb5 (by assumption) ?rb5
          case yb5 =>
            intro w hSw
            (try dsimp only at hSw)
            go_simp
            try with_reducible rfl
          (try simp only [Act.put, List.setIfInBounds_toArray, List.set_cons_zero, List.set_cons_succ])
          refine take_yes (i := 5) (v := ?vb6) (d := some 17) rfl rfl (by kernel_rfl) (by kernel_rfl) (by kernel_rfl) (fun _ _ _ h => h) (by rfl) ?yb6 (by assumption) ?rb6
          case yb6 =>
            intro w hSw
            (try dsimp only at hSw)
            go_simp
            try with_reducible rfl
          (try simp only [Act.put, List.setIfInBounds_toArray, List.set_cons_zero, List.set_cons_succ])
          refine take_yes (i := 6) (v := ?vb7) (d := some 18) rfl rfl (by kernel_rfl) (by kernel_rfl) (by kernel_rfl) (fun _ _ _ h => h) (by rfl) ?yb7 (by assumption) ?rb7
          case yb7 =>
            intro w hSw
            (try dsimp only at hSw)
            go_simp
            try with_reducible rfl
          (try simp only [Act.put, List.setIfInBounds_toArray, List.set_cons_zero, List.set_cons_succ])
          refine take_no (i := 7) (d := some 19) rfl rfl (by kernel_rfl) (by kernel_rfl) (by kernel_rfl) (fun _ _ _ h => h) (by rfl) (by assumption) ?_
          (try simp only [Act.put, List.setIfInBounds_toArray, List.set_cons_zero, List.set_cons_succ])
          refine take_no (i := 8) (d := some 20) rfl rfl (by kernel_rfl) (by kernel_rfl) (by kernel_rfl) (fun _ _ _ h => h) (by rfl) (by assumption) ?_
          (try simp only [Act.put, List.setIfInBounds_toArray, List.set_cons_zero, List.set_cons_succ])
          refine take_no (i := 9) (d := some 21) rfl rfl (by kernel_rfl) (by kernel_rfl) (by kernel_rfl) (fun _ _ _ h => h) (by rfl) (by assumption) ?_
          (try simp only [Act.put, List.setIfInBounds_toArray, List.set_cons_zero, List.set_cons_succ])
          refine take_no (i := 10) (d := some 22) rfl rfl (by kernel_rfl) (by kernel_rfl) (by kernel_rfl) (fun _ _ _ h => h) (by rfl) (by assumption) ?_
          (try simp only [Act.put, List.setIfInBounds_toArray, List.set_cons_zero, List.set_cons_succ])
          refine take_no (i := 11) (d := some 23) rfl rfl (by kernel_rfl) (by kernel_rfl) (by kernel_rfl) (fun _ _ _ h => h) (by rfl) (by assumption) ?_
          (try simp only [Act.put, List.setIfInBounds_toArray, List.set_cons_zero, List.set_cons_succ])
          refine take_no (i := 12) (d := some 24) rfl rfl (by kernel_rfl) (by kernel_rfl) (by kernel_rfl) (fun _ _ _ h => h) (by rfl) (by assumption) ?_
          (try simp only [Act.put, List.setIfInBounds_toArray, List.set_cons_zero, List.set_cons_succ])
          refine take_no (i := 13) (d := some 25) rfl rfl (by kernel_rfl) (by kernel_rfl) (by kernel_rfl) (fun _ _ _ h => h) (by rfl) (by assumption) ?_
          (try simp only [Act.put, List.setIfInBounds_toArray, List.set_cons_zero, List.set_cons_succ])
          refine take_no (i := 14) (d := some 26) rfl rfl (by kernel_rfl) (by kernel_rfl) (by kernel_rfl) (fun _ _ _ h => h) (by rfl) (by assumption) ?_
          (try simp only [Act.put, List.setIfInBounds_toArray, List.set_cons_zero, List.set_cons_succ])
          refine take_yes (i := 15) (v := ?vb8) (d := some 27) rfl rfl (by kernel_rfl) (by kernel_rfl) (by kernel_rfl) (fun _ _ _ h => h) (by rfl) ?yb8 (by assumption) ?rb8
          case yb8 =>
            intro w hSw
            (try dsimp only at hSw)
            go_simp
            try with_reducible rfl
          (try simp only [Act.put, List.setIfInBounds_toArray, List.set_cons_zero, List.set_cons_succ])
          refine take_yes (i := 16) (v := ?vb9) (d := some 28) rfl rfl (by kernel_rfl) (by kernel_rfl) (by kernel_rfl) (fun _ _ _ h => h) (by rfl) ?yb9 (by assumption) ?rb9
          case yb9 =>
            intro w hSw
            (try dsimp only at hSw)
            go_simp
            try with_reducible rfl
          (try simp only [Act.put, List.setIfInBounds_toArray, List.set_cons_zero, List.set_cons_succ])
          refine wpAnyH_done (by kernel_rfl) ?_ _
          go_wp2_with fail
          go_roundw
          case rel => exact ⟨1, by omega, rfl, fun i hi => by (obtain rfl : i = 0 := by omega); exact HF.out, btr HBz.out (by (repeat' (first | with_reducible exact Below.refl _ _ | with_reducible refine bl_alloc ?_ _ | with_reducible refine bl_set ?_ ?_ _ | exact (Below.refl _ _).drew | with_reducible refine bl_drew ?_ | with_reducible refine btr ?_ hbA | with_reducible refine btr ?_ hbB | omega | (simp; done) | (simp; omega))))⟩
          case measure => simp [intOf]; omega
        · obtain ⟨p0, p1, p2⟩ := HPz.out (by omega)
          have k0 : (0 : Int) < (k : Int) := by omega
          have k1 : (1 : Int) ≤ (k : Int) := by omega
          have dk : decide ((0 : Int) < (k : Int)) = true := by simp; omega
          have dk2 : decide (0 < k) = true := by simp; omega
          have x1 : IntKind.i64.wrap ((k : Int) - 1) = (k : Int) - 1 := IntWalk.i64_in _ (by omega)
          have x2 : ((k : Int) - 1).toNat = k - 1 := by omega
          have x3 : (0 : Int) ≤ (k : Int) - 1 := by omega
          have x4 : (k : Int) - 1 < (xs.length : Int) := by omega
          have HL : Hid (decide (0 ≤ cmpSh N2 L2 N L) = !lessB N2 L2 N L) := Lib.hid (cmpSh_less _ _ _ _)
          cases hle : lessB N2 L2 N L
          · have hf : okAt xs k = false := by rw [HOK.out]; simp [shOk, hsh, shLess, hle]; omega
            have HF := Lib.hid (cfg_false hlt hf)
            have hd : decide (0 ≤ cmpSh N2 L2 N L) = true := by rw [HL.out, hle]; rfl
            have hd2 : 0 ≤ cmpSh N2 L2 N L := by simpa using hd
            clear hf
            refine wp_region_held_drew (S := (fun w' => Below z.heap.size z w' ∧ w'.cell? ⟨wr.heap.size, 0, none⟩ = some (.int .i64 N) ∧ w'.cell? ⟨wr.heap.size, 1, none⟩ = some (.int .i64 L) ∧ w'.cell? ⟨wr.heap.size, 2, none⟩ = some (.int .i64 C) ∧ w'.cell? ⟨g, (k - 1) * 3, none⟩ = some (.int .i64 N2) ∧ w'.cell? ⟨g, (k - 1) * 3 + 1, none⟩ = some (.int .i64 L2) ∧ w'.cell? ⟨g, (k - 1) * 3 + 2, none⟩ = some (.int .i64 C2))) (by kernel_rfl) ?_ (fun hHeld => ?_)
            · (try dsimp only)
              (refine and_keep ?_ (fun hB => ⟨held_cell hB c0 Sz, held_cell hB c1 Sz, held_cell hB c2 Sz, held_cell hB p0 gz, held_cell hB p1 gz, held_cell hB p2 gz⟩); (repeat' (first | with_reducible exact Below.refl _ _ | with_reducible refine bl_alloc ?_ _ | with_reducible refine bl_set ?_ ?_ _ | exact (Below.refl _ _).drew | with_reducible refine bl_drew ?_ | with_reducible refine btr ?_ hbA | with_reducible refine btr ?_ hbB | omega | (simp; done) | (simp; omega))))
            refine take_yes (i := 0) (v := ?vc1) (d := some 12) rfl rfl (by kernel_rfl) (by kernel_rfl) (by kernel_rfl) (fun _ _ _ h => h) (by rfl) ?yc1 (by assumption) ?rc1
            case yc1 =>
              intro w hSw
              (try dsimp only at hSw)
              go_simp
              try with_reducible rfl
            (try simp only [Act.put, List.setIfInBounds_toArray, List.set_cons_zero, List.set_cons_succ])
            refine wpAnyH_ready (rs := [1]) (by kernel_rfl) (by simp) ?_
            refine AllReadyH.cons (o := _) rfl (fun K hK => ?_) AllReadyH.nil
            go_simp
            refine (i_ShellValid _ _ _ _).mono ?_
            rintro e wc2 ⟨rfl, hbA⟩
            rw [hsh]
            (try go_wp2_with fail)
            refine hK.out _ _ ?_ (fun hHeld => ?_)
            · (try dsimp only)
              (refine and_keep ?_ (fun hB => ⟨held_cell hB c0 Sz, held_cell hB c1 Sz, held_cell hB c2 Sz, held_cell hB p0 gz, held_cell hB p1 gz, held_cell hB p2 gz⟩); (repeat' (first | with_reducible exact Below.refl _ _ | with_reducible refine bl_alloc ?_ _ | with_reducible refine bl_set ?_ ?_ _ | exact (Below.refl _ _).drew | with_reducible refine bl_drew ?_ | with_reducible refine btr ?_ hbA | with_reducible refine btr ?_ hbB | omega | (simp; done) | (simp; omega))))
            clear hK K
            (try simp only [Act.put, List.setIfInBounds_toArray, List.set_cons_zero, List.set_cons_succ])
            refine take_yes (i := 2) (v := ?vc3) (d := some 14) rfl rfl (by kernel_rfl) (by kernel_rfl) (by kernel_rfl) (fun _ _ _ h => h) (by rfl) ?yc3 (by assumption) ?rc3
            case yc3 =>
              intro w hSw
              (try dsimp only at hSw)
              go_simp
              try with_reducible rfl
            (try simp only [Act.put, List.setIfInBounds_toArray, List.set_cons_zero, List.set_cons_succ])
            refine take_yes (i := 3) (v := ?vc4) (d := some 15) rfl rfl (by kernel_rfl) (by kernel_rfl) (by kernel_rfl) (fun _ _ _ h => h) (by rfl) ?yc4 (by assumption) ?rc4
            case yc4 =>
              intro w hSw
              (try dsimp only at hSw)
              go_simp
              try with_reducible rfl
            (try simp only [Act.put, List.setIfInBounds_toArray, List.set_cons_zero, List.set_cons_succ])
            refine take_yes (i := 4) (v := ?vc5) (d := some 16) rfl rfl (by kernel_rfl) (by kernel_rfl) (by kernel_rfl) (fun _ _ _ h => h) (by rfl) ?yc5 (by assumption) ?rc5
            case yc5 =>
              intro w hSw
              (try dsimp only at hSw)
              go_simp
              try with_reducible rfl
            (try simp only [Act.put, List.setIfInBounds_toArray, List.set_cons_zero, List.set_cons_succ])
            refine take_yes (i := 5) (v := ?vc6) (d := some 17) rfl rfl (by kernel_rfl) (by kernel_rfl) (by kernel_rfl) (fun _ _ _ h => h) (by rfl) ?yc6 (by assumption) ?rc6
            case yc6 =>
              intro w hSw
              (try dsimp only at hSw)
              go_simp
              try with_reducible rfl
            (try simp only [Act.put, List.setIfInBounds_toArray, List.set_cons_zero, List.set_cons_succ])
            refine take_yes (i := 6) (v := ?vc7) (d := some 18) rfl rfl (by kernel_rfl) (by kernel_rfl) (by kernel_rfl) (fun _ _ _ h => h) (by rfl) ?yc7 (by assumption) ?rc7
            case yc7 =>
              intro w hSw
              (try dsimp only at hSw)
              go_simp
              try with_reducible rfl
            (try simp only [Act.put, List.setIfInBounds_toArray, List.set_cons_zero, List.set_cons_succ])
            refine take_yes (i := 7) (v := ?vc8) (d := some 19) rfl rfl (by kernel_rfl) (by kernel_rfl) (by kernel_rfl) (fun _ _ _ h => h) (by rfl) ?yc8 (by assumption) ?rc8
            case yc8 =>
              intro w hSw
              (try dsimp only at hSw)
              go_simp
              try with_reducible rfl
            (try simp only [Act.put, List.setIfInBounds_toArray, List.set_cons_zero, List.set_cons_succ])
            refine take_yes (i := 8) (v := ?vc9) (d := some 20) rfl rfl (by kernel_rfl) (by kernel_rfl) (by kernel_rfl) (fun _ _ _ h => h) (by rfl) ?yc9 (by assumption) ?rc9
            case yc9 =>
              intro w hSw
              (try dsimp only at hSw)
              go_simp
              try with_reducible rfl
            (try simp only [Act.put, List.setIfInBounds_toArray, List.set_cons_zero, List.set_cons_succ])
            refine take_yes (i := 9) (v := ?vc10) (d := some 21) rfl rfl (by kernel_rfl) (by kernel_rfl) (by kernel_rfl) (fun _ _ _ h => h) (by rfl) ?yc10 (by assumption) ?rc10
            case yc10 =>
              intro w hSw
              (try dsimp only at hSw)
              go_simp
              try with_reducible rfl
            (try simp only [Act.put, List.setIfInBounds_toArray, List.set_cons_zero, List.set_cons_succ])
            refine take_yes (i := 10) (v := ?vc11) (d := some 22) rfl rfl (by kernel_rfl) (by kernel_rfl) (by kernel_rfl) (fun _ _ _ h => h) (by rfl) ?yc11 (by assumption) ?rc11
            case yc11 =>
              intro w hSw
              (try dsimp only at hSw)
              go_simp
              try with_reducible rfl
            (try simp only [Act.put, List.setIfInBounds_toArray, List.set_cons_zero, List.set_cons_succ])
            refine take_yes (i := 11) (v := ?vc12) (d := some 23) rfl rfl (by kernel_rfl) (by kernel_rfl) (by kernel_rfl) (fun _ _ _ h => h) (by rfl) ?yc12 (by assumption) ?rc12
            case yc12 =>
              intro w hSw
              (try dsimp only at hSw)
              go_simp
              try with_reducible rfl
            (try simp only [Act.put, List.setIfInBounds_toArray, List.set_cons_zero, List.set_cons_succ])
            refine take_yes (i := 12) (v := ?vc13) (d := some 24) rfl rfl (by kernel_rfl) (by kernel_rfl) (by kernel_rfl) (fun _ _ _ h => h) (by rfl) ?yc13 (by assumption) ?rc13
            case yc13 =>
              intro w hSw
              (try dsimp only at hSw)
              go_simp
              try with_reducible rfl
            (try simp only [Act.put, List.setIfInBounds_toArray, List.set_cons_zero, List.set_cons_succ])
            refine wpAnyH_ready (rs := [13]) (by kernel_rfl) (by simp) ?_
            refine AllReadyH.cons (o := _) rfl (fun K hK => ?_) AllReadyH.nil
            go_simp
            refine (i_compareShells _ _ _ _ _ _ _).mono ?_
            rintro e wc14 ⟨rfl, hbB⟩
            (try go_wp2_with fail)
            refine hK.out _ _ ?_ (fun hHeld => ?_)
            · (try dsimp only)
              (refine and_keep ?_ (fun hB => ⟨held_cell hB c0 Sz, held_cell hB c1 Sz, held_cell hB c2 Sz, held_cell hB p0 gz, held_cell hB p1 gz, held_cell hB p2 gz⟩); (repeat' (first | with_reducible exact Below.refl _ _ | with_reducible refine bl_alloc ?_ _ | with_reducible refine bl_set ?_ ?_ _ | exact (Below.refl _ _).drew | with_reducible refine bl_drew ?_ | with_reducible refine btr ?_ hbA | with_reducible refine btr ?_ hbB | omega | (simp; done) | (simp; omega))))
            clear hK K
            (try simp only [Act.put, List.setIfInBounds_toArray, List.set_cons_zero, List.set_cons_succ])
            refine take_yes (i := 14) (v := ?vc15) (d := some 26) rfl rfl (by kernel_rfl) (by kernel_rfl) (by kernel_rfl) (fun _ _ _ h => h) (by rfl) ?yc15 (by assumption) ?rc15
            case yc15 =>
              intro w hSw
              (try dsimp only at hSw)
              go_simp
              try with_reducible rfl
            (try simp only [Act.put, List.setIfInBounds_toArray, List.set_cons_zero, List.set_cons_succ])
            refine take_yes (i := 15) (v := ?vc16) (d := some 27) rfl rfl (by kernel_rfl) (by kernel_rfl) (by kernel_rfl) (fun _ _ _ h => h) (by rfl) ?yc16 (by assumption) ?rc16
            case yc16 =>
              intro w hSw
              (try dsimp only at hSw)
              go_simp
              try with_reducible rfl
            (try simp only [Act.put, List.setIfInBounds_toArray, List.set_cons_zero, List.set_cons_succ])
            refine take_yes (i := 16) (v := ?vc17) (d := some 28) rfl rfl (by kernel_rfl) (by kernel_rfl) (by kernel_rfl) (fun _ _ _ h => h) (by rfl) ?yc17 (by assumption) ?rc17
            case yc17 =>
              intro w hSw
              (try dsimp only at hSw)
              go_simp
              try with_reducible rfl
            (try simp only [Act.put, List.setIfInBounds_toArray, List.set_cons_zero, List.set_cons_succ])
            refine wpAnyH_done (by kernel_rfl) ?_ _
            go_wp2_with fail
            go_ret
            exact ⟨ret_bool (by rw [HF.out]), btr HBz.out (by (repeat' (first | with_reducible exact Below.refl _ _ | with_reducible refine bl_alloc ?_ _ | with_reducible refine bl_set ?_ ?_ _ | exact (Below.refl _ _).drew | with_reducible refine bl_drew ?_ | with_reducible refine btr ?_ hbA | with_reducible refine btr ?_ hbB | omega | (simp; done) | (simp; omega))))⟩
          · have hf : okAt xs k = true := by rw [HOK.out]; simp [shOk, hsh, shLess, hle]
            have HF := Lib.hid hf
            have hd : decide (0 ≤ cmpSh N2 L2 N L) = false := by rw [HL.out, hle]; rfl
            have hd2 : cmpSh N2 L2 N L < 0 := by simpa using hd
            clear hf
            refine wp_region_held_drew (S := (fun w' => Below z.heap.size z w' ∧ w'.cell? ⟨wr.heap.size, 0, none⟩ = some (.int .i64 N) ∧ w'.cell? ⟨wr.heap.size, 1, none⟩ = some (.int .i64 L) ∧ w'.cell? ⟨wr.heap.size, 2, none⟩ = some (.int .i64 C) ∧ w'.cell? ⟨g, (k - 1) * 3, none⟩ = some (.int .i64 N2) ∧ w'.cell? ⟨g, (k - 1) * 3 + 1, none⟩ = some (.int .i64 L2) ∧ w'.cell? ⟨g, (k - 1) * 3 + 2, none⟩ = some (.int .i64 C2))) (by kernel_rfl) ?_ (fun hHeld => ?_)
            · (try dsimp only)
              (refine and_keep ?_ (fun hB => ⟨held_cell hB c0 Sz, held_cell hB c1 Sz, held_cell hB c2 Sz, held_cell hB p0 gz, held_cell hB p1 gz, held_cell hB p2 gz⟩); (repeat' (first | with_reducible exact Below.refl _ _ | with_reducible refine bl_alloc ?_ _ | with_reducible refine bl_set ?_ ?_ _ | exact (Below.refl _ _).drew | with_reducible refine bl_drew ?_ | with_reducible refine btr ?_ hbA | with_reducible refine btr ?_ hbB | omega | (simp; done) | (simp; omega))))
            refine take_yes (i := 0) (v := ?vd1) (d := some 12) rfl rfl (by kernel_rfl) (by kernel_rfl) (by kernel_rfl) (fun _ _ _ h => h) (by rfl) ?yd1 (by assumption) ?rd1
            case yd1 =>
              intro w hSw
              (try dsimp only at hSw)
              go_simp
              try with_reducible rfl
            (try simp only [Act.put, List.setIfInBounds_toArray, List.set_cons_zero, List.set_cons_succ])
            refine wpAnyH_ready (rs := [1]) (by kernel_rfl) (by simp) ?_
            refine AllReadyH.cons (o := _) rfl (fun K hK => ?_) AllReadyH.nil
            go_simp
            refine (i_ShellValid _ _ _ _).mono ?_
            rintro e wd2 ⟨rfl, hbA⟩
            rw [hsh]
            (try go_wp2_with fail)
            refine hK.out _ _ ?_ (fun hHeld => ?_)
            · (try dsimp only)
              (refine and_keep ?_ (fun hB => ⟨held_cell hB c0 Sz, held_cell hB c1 Sz, held_cell hB c2 Sz, held_cell hB p0 gz, held_cell hB p1 gz, held_cell hB p2 gz⟩); (repeat' (first | with_reducible exact Below.refl _ _ | with_reducible refine bl_alloc ?_ _ | with_reducible refine bl_set ?_ ?_ _ | exact (Below.refl _ _).drew | with_reducible refine bl_drew ?_ | with_reducible refine btr ?_ hbA | with_reducible refine btr ?_ hbB | omega | (simp; done) | (simp; omega))))
            clear hK K
            (try simp only [Act.put, List.setIfInBounds_toArray, List.set_cons_zero, List.set_cons_succ])
            refine take_yes (i := 2) (v := ?vd3) (d := some 14) rfl rfl (by kernel_rfl) (by kernel_rfl) (by kernel_rfl) (fun _ _ _ h => h) (by rfl) ?yd3 (by assumption) ?rd3
            case yd3 =>
              intro w hSw
              (try dsimp only at hSw)
              go_simp
              try with_reducible rfl
            (try simp only [Act.put, List.setIfInBounds_toArray, List.set_cons_zero, List.set_cons_succ])
            refine take_yes (i := 3) (v := ?vd4) (d := some 15) rfl rfl (by kernel_rfl) (by kernel_rfl) (by kernel_rfl) (fun _ _ _ h => h) (by rfl) ?yd4 (by assumption) ?rd4
            case yd4 =>
              intro w hSw
              (try dsimp only at hSw)
              go_simp
              try with_reducible rfl
            (try simp only [Act.put, List.setIfInBounds_toArray, List.set_cons_zero, List.set_cons_succ])
            refine take_yes (i := 4) (v := ?vd5) (d := some 16) rfl rfl (by kernel_rfl) (by kernel_rfl) (by kernel_rfl) (fun _ _ _ h => h) (by rfl) ?yd5 (by assumption) ?rd5
            case yd5 =>
              intro w hSw
              (try dsimp only at hSw)
              go_simp
              try with_reducible rfl
            (try simp only [Act.put, List.setIfInBounds_toArray, List.set_cons_zero, List.set_cons_succ])
            refine take_yes (i := 5) (v := ?vd6) (d := some 17) rfl rfl (by kernel_rfl) (by kernel_rfl) (by kernel_rfl) (fun _ _ _ h => h) (by rfl) ?yd6 (by assumption) ?rd6
            case yd6 =>
              intro w hSw
              (try dsimp only at hSw)
              go_simp
              try with_reducible rfl
            (try simp only [Act.put, List.setIfInBounds_toArray, List.set_cons_zero, List.set_cons_succ])
            refine take_yes (i := 6) (v := ?vd7) (d := some 18) rfl rfl (by kernel_rfl) (by kernel_rfl) (by kernel_rfl) (fun _ _ _ h => h) (by rfl) ?yd7 (by assumption) ?rd7
            case yd7 =>
              intro w hSw
              (try dsimp only at hSw)
              go_simp
              try with_reducible rfl
            (try simp only [Act.put, List.setIfInBounds_toArray, List.set_cons_zero, List.set_cons_succ])
            refine take_yes (i := 7) (v := ?vd8) (d := some 19) rfl rfl (by kernel_rfl) (by kernel_rfl) (by kernel_rfl) (fun _ _ _ h => h) (by rfl) ?yd8 (by assumption) ?rd8
            case yd8 =>
              intro w hSw
              (try dsimp only at hSw)
              go_simp
              try with_reducible rfl
            (try simp only [Act.put, List.setIfInBounds_toArray, List.set_cons_zero, List.set_cons_succ])
            refine take_yes (i := 8) (v := ?vd9) (d := some 20) rfl rfl (by kernel_rfl) (by kernel_rfl) (by kernel_rfl) (fun _ _ _ h => h) (by rfl) ?yd9 (by assumption) ?rd9
            case yd9 =>
              intro w hSw
              (try dsimp only at hSw)
              go_simp
              try with_reducible rfl
            (try simp only [Act.put, List.setIfInBounds_toArray, List.set_cons_zero, List.set_cons_succ])
            refine take_yes (i := 9) (v := ?vd10) (d := some 21) rfl rfl (by kernel_rfl) (by kernel_rfl) (by kernel_rfl) (fun _ _ _ h => h) (by rfl) ?yd10 (by assumption) ?rd10
            case yd10 =>
              intro w hSw
              (try dsimp only at hSw)
              go_simp
              try with_reducible rfl
            (try simp only [Act.put, List.setIfInBounds_toArray, List.set_cons_zero, List.set_cons_succ])
            refine take_yes (i := 10) (v := ?vd11) (d := some 22) rfl rfl (by kernel_rfl) (by kernel_rfl) (by kernel_rfl) (fun _ _ _ h => h) (by rfl) ?yd11 (by assumption) ?rd11
            case yd11 =>
              intro w hSw
              (try dsimp only at hSw)
              go_simp
              try with_reducible rfl
            (try simp only [Act.put, List.setIfInBounds_toArray, List.set_cons_zero, List.set_cons_succ])
            refine take_yes (i := 11) (v := ?vd12) (d := some 23) rfl rfl (by kernel_rfl) (by kernel_rfl) (by kernel_rfl) (fun _ _ _ h => h) (by rfl) ?yd12 (by assumption) ?rd12
            case yd12 =>
              intro w hSw
              (try dsimp only at hSw)
              go_simp
              try with_reducible rfl
            (try simp only [Act.put, List.setIfInBounds_toArray, List.set_cons_zero, List.set_cons_succ])
            refine take_yes (i := 12) (v := ?vd13) (d := some 24) rfl rfl (by kernel_rfl) (by kernel_rfl) (by kernel_rfl) (fun _ _ _ h => h) (by rfl) ?yd13 (by assumption) ?rd13
            case yd13 =>
              intro w hSw
              (try dsimp only at hSw)
              go_simp
              try with_reducible rfl
            (try simp only [Act.put, List.setIfInBounds_toArray, List.set_cons_zero, List.set_cons_succ])
            refine wpAnyH_ready (rs := [13]) (by kernel_rfl) (by simp) ?_
            refine AllReadyH.cons (o := _) rfl (fun K hK => ?_) AllReadyH.nil
            go_simp
            refine (i_compareShells _ _ _ _ _ _ _).mono ?_
            rintro e wd14 ⟨rfl, hbB⟩
            (try go_wp2_with fail)
            refine hK.out _ _ ?_ (fun hHeld => ?_)
            · (try dsimp only)
              (refine and_keep ?_ (fun hB => ⟨held_cell hB c0 Sz, held_cell hB c1 Sz, held_cell hB c2 Sz, held_cell hB p0 gz, held_cell hB p1 gz, held_cell hB p2 gz⟩); (repeat' (first | with_reducible exact Below.refl _ _ | with_reducible refine bl_alloc ?_ _ | with_reducible refine bl_set ?_ ?_ _ | exact (Below.refl _ _).drew | with_reducible refine bl_drew ?_ | with_reducible refine btr ?_ hbA | with_reducible refine btr ?_ hbB | omega | (simp; done) | (simp; omega))))
            clear hK K
            (try simp only [Act.put, List.setIfInBounds_toArray, List.set_cons_zero, List.set_cons_succ])
            refine take_yes (i := 14) (v := ?vd15) (d := some 26) rfl rfl (by kernel_rfl) (by kernel_rfl) (by kernel_rfl) (fun _ _ _ h => h) (by rfl) ?yd15 (by assumption) ?rd15
            case yd15 =>
              intro w hSw
              (try dsimp only at hSw)
              go_simp
              try with_reducible rfl
            (try simp only [Act.put, List.setIfInBounds_toArray, List.set_cons_zero, List.set_cons_succ])
            refine take_yes (i := 15) (v := ?vd16) (d := some 27) rfl rfl (by kernel_rfl) (by kernel_rfl) (by kernel_rfl) (fun _ _ _ h => h) (by rfl) ?yd16 (by assumption) ?rd16
            case yd16 =>
              intro w hSw
              (try dsimp only at hSw)
              go_simp
              try with_reducible rfl
            (try simp only [Act.put, List.setIfInBounds_toArray, List.set_cons_zero, List.set_cons_succ])
            refine take_yes (i := 16) (v := ?vd17) (d := some 28) rfl rfl (by kernel_rfl) (by kernel_rfl) (by kernel_rfl) (fun _ _ _ h => h) (by rfl) ?yd17 (by assumption) ?rd17
            case yd17 =>
              intro w hSw
              (try dsimp only at hSw)
              go_simp
              try with_reducible rfl
            (try simp only [Act.put, List.setIfInBounds_toArray, List.set_cons_zero, List.set_cons_succ])
            refine wpAnyH_done (by kernel_rfl) ?_ _
            go_wp2_with fail
            go_roundw
            case rel => exact ⟨k + 1, by omega, by go_num, fun i hi => by (rcases Nat.lt_succ_iff_lt_or_eq.1 hi with h | h); exact HA.out i h; (subst h; exact HF.out), btr HBz.out (by (repeat' (first | with_reducible exact Below.refl _ _ | with_reducible refine bl_alloc ?_ _ | with_reducible refine bl_set ?_ ?_ _ | exact (Below.refl _ _).drew | with_reducible refine bl_drew ?_ | with_reducible refine btr ?_ hbA | with_reducible refine btr ?_ hbB | omega | (simp; done) | (simp; omega))))⟩
            case measure => simp [intOf]; omega
    · have hkk : cfgB xs = decide (0 < xs.length) := cfg_true (fun i hi => HA.out i (by omega))
      have HKK := Lib.hid hkk
      clear hkk
      go_wp2_with fail
      go_ret
      exact ⟨ret_bool (by rw [HKK.out]), HB.out⟩

end Go.Proofs.Ytpdhbilghmejiaa
