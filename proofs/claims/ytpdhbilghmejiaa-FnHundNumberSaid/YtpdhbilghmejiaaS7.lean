/- Contracts of the functions of the laws that copy and compare shells; the walk of the law that HundConfig returns what the reference's returns. -/
import Derived.Test.YtpdhbilghmejiaaS6
namespace Go.Proofs.Ytpdhbilghmejiaa
open Go.RowKit
set_option linter.unusedVariables false

def RTrueS (w : World) (e : Ending) (w' : World) : Prop := e = .returned (.bool true) ∧ Below w.heap.size w w'

/-- A slice of shells that came in. -/
def InSh (w : World) (v : Value) (xs : List Sh) : Prop :=
  ∃ a cap, v = .slice a xs.length cap ∧ xs.length ≤ cap ∧ cap ≤ maxLen ∧ (xs = [] ∨ ∃ b off, a = some ⟨b, off, none⟩ ∧ b < w.heap.size ∧ ∀ j, j < xs.length → w.cell? ⟨b, off + j * 3, none⟩ = some (.int .i64 (shAt xs j).1) ∧ w.cell? ⟨b, off + j * 3 + 1, none⟩ = some (.int .i64 (shAt xs j).2.1) ∧ w.cell? ⟨b, off + j * 3 + 2, none⟩ = some (.int .i64 (shAt xs j).2.2))
theorem InSh.below {w w' : World} {v : Value} {xs : List Sh} (h : InSh w v xs) (hb : Below w.heap.size w w') : InSh w' v xs := by
  obtain ⟨a, cap, hv, h1, h2, hc⟩ := h
  refine ⟨a, cap, hv, h1, h2, hc.imp id ?_⟩
  rintro ⟨b, off, ha, hl, hx⟩
  refine ⟨b, off, ha, Nat.lt_of_lt_of_le hl hb.size, fun j hj => ?_⟩
  obtain ⟨c0, c1, c2⟩ := hx j hj
  exact ⟨by rw [hb.cell (p := ⟨b, off + j * 3, none⟩) hl]; exact c0, by rw [hb.cell (p := ⟨b, off + j * 3 + 1, none⟩) hl]; exact c1, by rw [hb.cell (p := ⟨b, off + j * 3 + 2, none⟩) hl]; exact c2⟩

theorem set3_take {α : Type} (a b c : α) : ∀ (m : Nat) (l : List α), m + 3 ≤ l.length → (((l.set m a).set (m + 1) b).set (m + 2) c).take (m + 3) = l.take m ++ [a, b, c]
  | 0, x :: y :: z :: t, _ => by simp
  | m + 1, x :: t, h => by
    have := set3_take a b c m t (by simp at h; omega)
    simp only [List.set_cons_succ, List.take_succ_cons, List.cons_append]
    exact congrArg (x :: ·) this
  | 0, [], h => by simp at h
  | 0, [_], h => by simp at h
  | 0, [_, _], h => by simp at h
  | m + 1, [], h => by simp at h

/-- The first k of n shells have been copied into block g. -/
def PartSh (w : World) (g : Nat) (xs : List Sh) (k : Nat) : Prop :=
  ∃ cs : Array Value, w.heap[g]? = some (.cells cs 51 (0, 0)) ∧ cs.size = xs.length * 3 ∧ cs.toList.take (k * 3) = (xs.take k).flatMap scs
theorem PartSh.lt {w : World} {g k : Nat} {xs : List Sh} (h : PartSh w g xs k) : g < w.heap.size := by
  obtain ⟨cs, hh, _⟩ := h
  rcases Nat.lt_or_ge g w.heap.size with h | h
  · exact h
  · rw [Array.getElem?_eq_none h] at hh; cases hh
theorem PartSh.below {w w' : World} {g k : Nat} {xs : List Sh} (h : PartSh w g xs k) (hb : Below w.heap.size w w') : PartSh w' g xs k := by
  have hl := h.lt
  obtain ⟨cs, hh, h1, h2⟩ := h
  exact ⟨cs, by rw [hb.block g hl]; exact hh, h1, h2⟩
theorem PartSh.at {w : World} {g k : Nat} {xs : List Sh} (h : PartSh w g xs k) {i : Nat} (hi : i < xs.length * 3) : (∃ u, w.cell? ⟨g, i, none⟩ = some u) ∧ w.frozen? ⟨g, i, none⟩ = false := by
  obtain ⟨cs, hh, h1, h2⟩ := h
  have hi2 : i < cs.size := by omega
  exact ⟨⟨cs[i], by simp [World.cell?, hh, hi2]⟩, by simp [World.frozen?, hh]⟩
theorem PartSh.step {w : World} {g k : Nat} {xs : List Sh} {N L C : Int} (h : PartSh w g xs k) (hk : k < xs.length) (hp : shAt xs k = (N, L, C)) :
    PartSh (((w.setCell ⟨g, k * 3, none⟩ (.int .i64 N)).setCell ⟨g, k * 3 + 1, none⟩ (.int .i64 L)).setCell ⟨g, k * 3 + 2, none⟩ (.int .i64 C)) g xs (k + 1) := by
  obtain ⟨cs, hh, h1, h2⟩ := h
  refine ⟨((cs.setIfInBounds (k * 3) (.int .i64 N)).setIfInBounds (k * 3 + 1) (.int .i64 L)).setIfInBounds (k * 3 + 2) (.int .i64 C), ?_, by simp [h1], ?_⟩
  · simp [World.setCell, Array.getElem?_modify, hh]
  · have e := set3_take (Value.int .i64 N) (.int .i64 L) (.int .i64 C) (k * 3) cs.toList (by simp [h1]; omega)
    simp only [Array.toList_setIfInBounds]
    rw [show (k + 1) * 3 = k * 3 + 3 by omega, e, h2, shAt_take hk, List.flatMap_append, hp]
    rfl
theorem PartSh.done {w : World} {g b : Nat} {xs : List Sh} (h : PartSh w g xs xs.length) (hb : b ≤ g) (hn : xs.length ≤ maxLen) : Shells w b (.slice (some ⟨g, 0, none⟩) xs.length xs.length) xs := by
  obtain ⟨cs, hh, h1, h2⟩ := h
  refine ⟨flat_len scs_len xs, .inr ⟨g, xs.length, cs, rfl, hb, hh, Nat.le_refl _, hn, h1, ?_⟩⟩
  rw [h2, List.take_length]

set_option maxRecDepth 100000 in
set_option maxHeartbeats 1000000 in
theorem l_toShell (N L C : Int) (w : World) :
    Calls Try.prog 42 #[.agg #[.int .i64 N, .int .i64 L, .int .i64 C]] w fun e w' => e = .returned (.agg #[.int .i64 N, .int .i64 L, .int .i64 C]) ∧ Below w.heap.size w w' := by
  go_enter Try.func42, Try.ntmps42
  go_wp2_with fail
  refine bodyPost_ret (v := .agg #[.int .i64 N, .int .i64 L, .int .i64 C]) ?_ rfl ?_
  · simp [results, Try.results42, go_sem]
  · exact ⟨rfl, by (repeat' (first | exact Below.refl _ _ | refine bl_alloc ?_ _ | refine bl_set ?_ ?_ _ | omega | (simp; done) | (simp; omega)))⟩

set_option maxRecDepth 100000 in
set_option maxHeartbeats 1000000 in
theorem l_toShellS (v : Value) (xs : List Sh) (w : World) (hv : InSh w v xs) (hn : xs.length ≤ 1048576) :
    Calls Try.prog 25 #[v] w (RShells w xs) := by
  obtain ⟨i0, hi, hz0, hz1, hz2⟩ := info_parts infoShell
  obtain ⟨a, cap, rfl, h1, h2, hc⟩ := hv
  have HC := Lib.hid hc
  have HN := Lib.hid (And.intro h1 h2)
  clear hc h1 h2
  go_enter Try.func25, Try.ntmps25
  go_wp2_with (refine wpList_make_full _ rfl _ _ 44 rfl w.heap.size 51 i0 (.agg #[.int .i64 0, .int .i64 0, .int .i64 0]) 3 Try.underlying44 hi hz0 hz1 .i64 .i64 (xs.length : Int) (xs.length : Int) xs.length rfl rfl rfl rfl (by rw [hz2]; omega) (by unfold maxLen; omega) (Nat.le_refl _) ?_)
  intro w1 hown hgrow
  have hB1 : Below w.heap.size w w1 := (Below.refl _ _).grown hgrow (Nat.le_refl _) (fun k hk => by cases hk)
  have P0 : PartSh w1 w.heap.size xs 0 := by
    obtain ⟨_, h⟩ := hown
    rcases h with ⟨h, _⟩ | ⟨g, c, cur, hv, _, hh, _, _, hsz, _⟩
    · cases h
    · simp only [Value.slice.injEq, Option.some.injEq, Addr.mk.injEq, and_true, true_and] at hv
      obtain ⟨rfl, rfl⟩ := hv
      exact ⟨cur, hh, hsz, by simp⟩
  have HP0 := Lib.hid P0
  have HB1 := Lib.hid hB1
  clear hown hgrow P0 hB1 hi hz0 hz1 hz2
  go_wp2_with fail
  go_loopw [4] (fun c wr => ∃ k : Nat, k ≤ xs.length ∧ c = .int .i64 k ∧ PartSh wr w.heap.size xs k ∧ Below w.heap.size w wr) (fun c _ => xs.length - (intOf c).toNat)
  case atStart => exact ⟨0, Nat.zero_le _, rfl, HP0.out, HB1.out⟩
  case round =>
    obtain ⟨k, hk, rfl, hP, hB⟩ := hrel
    have HP := Lib.hid hP
    have HB := Lib.hid hB
    have hs := hB.size
    by_cases hlt : k < xs.length
    · rcases HC.out with h | ⟨b, off, rfl, hg2, hg⟩
      · subst h; simp at hlt
      obtain ⟨a0, a1, a2⟩ := hg k hlt
      have c0 : wr.cell? ⟨b, off + k * 3, none⟩ = some (.int .i64 (shAt xs k).1) := by rw [hB.cell (p := ⟨b, off + k * 3, none⟩) hg2]; exact a0
      have c1 : wr.cell? ⟨b, off + k * 3 + 1, none⟩ = some (.int .i64 (shAt xs k).2.1) := by rw [hB.cell (p := ⟨b, off + k * 3 + 1, none⟩) hg2]; exact a1
      have c2 : wr.cell? ⟨b, off + k * 3 + 2, none⟩ = some (.int .i64 (shAt xs k).2.2) := by rw [hB.cell (p := ⟨b, off + k * 3 + 2, none⟩) hg2]; exact a2
      clear a0 a1 a2 hg hB hP
      generalize hp : shAt xs k = p at *
      obtain ⟨N, L, C⟩ := p
      have HPP := Lib.hid hp
      clear hp
      have k8 : (0 : Int) ≤ (k : Int) := by omega
      have k9 : (k : Int) < (xs.length : Int) := by omega
      go_wp2_with fail
      refine (l_toShell _ _ _ _).mono ?_
      rintro e w2 ⟨rfl, hb⟩
      have P2 := HP.out.below hb
      obtain ⟨⟨u0, d0⟩, f0⟩ := P2.at (i := k * 3) (by omega)
      obtain ⟨⟨u1, d1⟩, f1⟩ := P2.at (i := k * 3 + 1) (by omega)
      obtain ⟨⟨u2, d2⟩, f2⟩ := P2.at (i := k * 3 + 2) (by omega)
      have HP2 := Lib.hid P2
      have HB2 : Hid (Below w.heap.size w w2) := Lib.hid (btr HB.out hb)
      clear P2 hb c0 c1 c2
      go_wp2_with fail
      go_roundw
      case rel => exact ⟨k + 1, by omega, by go_num, HP2.out.step hlt HPP.out, bl_set (bl_set (bl_set HB2.out (Nat.le_refl _) _) (Nat.le_refl _) _) (Nat.le_refl _) _⟩
      case measure => simp [intOf]; omega
    · obtain rfl : k = xs.length := by omega
      go_wp2_with fail
      go_ret
      exact ⟨_, rfl, HP.out.done (Nat.le_refl _) (by unfold maxLen; omega), HB.out⟩

set_option maxRecDepth 100000 in
set_option maxHeartbeats 1000000 in
theorem l_eqShell (N L C : Int) (w : World) :
    Calls Try.prog 44 #[.agg #[.int .i64 N, .int .i64 L, .int .i64 C], .agg #[.int .i64 N, .int .i64 L, .int .i64 C]] w fun e w' => e = .returned (.bool true) ∧ Below w.heap.size w w' := by
  go_enter Try.func44, Try.ntmps44
  go_wp2_with fail
  go_ret
  exact ⟨rfl, bl_alloc (bl_alloc (Below.refl _ _) _) _⟩

set_option maxRecDepth 100000 in
set_option maxHeartbeats 1000000 in
theorem l_eqShellS (v u : Value) (xs : List Sh) (b1 b2 : Nat) (w : World) (hv : Shells w b1 v xs) (hu : Shells w b2 u xs) (hn : xs.length ≤ 2000000) :
    Calls Try.prog 27 #[v, u] w fun e w' => e = .returned (.bool true) ∧ Below w.heap.size w w' := by
  obtain ⟨a, cap, rfl, hc⟩ := Shells.opened hv
  obtain ⟨a2, cap2, rfl, hc2⟩ := Shells.opened hu
  have HC := Lib.hid hc
  have HC2 := Lib.hid hc2
  clear hc hc2 hv hu
  go_enter Try.func27, Try.ntmps27
  go_wp2_with fail
  go_loopw [5] (fun c wr => ∃ k : Nat, k ≤ xs.length ∧ c = .int .i64 k ∧ Below w.heap.size w wr) (fun c _ => xs.length - (intOf c).toNat)
  case atStart => exact ⟨0, Nat.zero_le _, rfl, Below.refl _ _⟩
  case round =>
    obtain ⟨k, hk, rfl, hB⟩ := hrel
    have HB := Lib.hid hB
    have hs := hB.size
    by_cases hlt : k < xs.length
    · rcases HC.out with h | ⟨g, rfl, _, hg2, hg⟩
      · subst h; simp at hlt
      rcases HC2.out with h | ⟨q, rfl, _, hq2, hq⟩
      · subst h; simp at hlt
      obtain ⟨a0, a1, a2⟩ := hg k hlt
      obtain ⟨b0, b1, b2⟩ := hq k hlt
      have c0 : wr.cell? ⟨g, k * 3, none⟩ = some (.int .i64 (shAt xs k).1) := by rw [hB.cell (p := ⟨g, k * 3, none⟩) hg2]; exact a0
      have c1 : wr.cell? ⟨g, k * 3 + 1, none⟩ = some (.int .i64 (shAt xs k).2.1) := by rw [hB.cell (p := ⟨g, k * 3 + 1, none⟩) hg2]; exact a1
      have c2 : wr.cell? ⟨g, k * 3 + 2, none⟩ = some (.int .i64 (shAt xs k).2.2) := by rw [hB.cell (p := ⟨g, k * 3 + 2, none⟩) hg2]; exact a2
      have d0 : wr.cell? ⟨q, k * 3, none⟩ = some (.int .i64 (shAt xs k).1) := by rw [hB.cell (p := ⟨q, k * 3, none⟩) hq2]; exact b0
      have d1 : wr.cell? ⟨q, k * 3 + 1, none⟩ = some (.int .i64 (shAt xs k).2.1) := by rw [hB.cell (p := ⟨q, k * 3 + 1, none⟩) hq2]; exact b1
      have d2 : wr.cell? ⟨q, k * 3 + 2, none⟩ = some (.int .i64 (shAt xs k).2.2) := by rw [hB.cell (p := ⟨q, k * 3 + 2, none⟩) hq2]; exact b2
      clear a0 a1 a2 hg b0 b1 b2 hq hB
      generalize shAt xs k = p at *
      obtain ⟨N, L, C⟩ := p
      have k8 : (0 : Int) ≤ (k : Int) := by omega
      have k9 : (k : Int) < (xs.length : Int) := by omega
      have gz : g < wr.heap.size := by omega
      have qz : q < wr.heap.size := by omega
      go_wp2_with fail
      go_region_held3 (fun w' => Below wr.heap.size wr w' ∧ w'.cell? ⟨g, k * 3, none⟩ = some (.int .i64 N) ∧ w'.cell? ⟨g, k * 3 + 1, none⟩ = some (.int .i64 L) ∧ w'.cell? ⟨g, k * 3 + 2, none⟩ = some (.int .i64 C) ∧ w'.cell? ⟨q, k * 3, none⟩ = some (.int .i64 N) ∧ w'.cell? ⟨q, k * 3 + 1, none⟩ = some (.int .i64 L) ∧ w'.cell? ⟨q, k * 3 + 2, none⟩ = some (.int .i64 C)) ((refine and_keep ?_ (fun hB => ⟨held_cell hB c0 gz, held_cell hB c1 gz, held_cell hB c2 gz, held_cell hB d0 qz, held_cell hB d1 qz, held_cell hB d2 qz⟩); (first | exact (Below.refl _ _).drew | exact btr (Below.refl _ _).drew hbA))) ((go_at_call 44; refine (l_eqShell _ _ _ _).mono ?_; rintro e wA ⟨rfl, hbA⟩))
      go_wp2_with fail
      go_roundw
      case rel => exact ⟨k + 1, by omega, by go_num, btr (bl_drew HB.out) hbA⟩
      case measure => simp [intOf]; omega
    · go_wp2_with fail
      go_ret
      exact ⟨rfl, HB.out⟩

set_option maxRecDepth 100000 in
set_option maxHeartbeats 1000000 in
theorem l_eqTermS (a b : Int) (w : World) :
    Calls Try.prog 14 #[.agg #[.int .i64 a, .int .i64 b], .agg #[.int .i64 a, .int .i64 b]] w fun e w' => e = .returned (.bool true) ∧ Below w.heap.size w w' := by
  go_enter Try.func14, Try.ntmps14
  go_wp2_with fail
  go_ret
  exact ⟨rfl, bl_alloc (bl_alloc (Below.refl _ _) _) _⟩

set_option maxRecDepth 100000 in
set_option maxHeartbeats 1000000 in
theorem l_eqLevelS (S L J : Int) (w : World) :
    Calls Try.prog 18 #[.agg #[.int .i64 S, .int .i64 L, .int .i64 J], .agg #[.int .i64 S, .int .i64 L, .int .i64 J]] w fun e w' => e = .returned (.bool true) ∧ Below w.heap.size w w' := by
  go_enter Try.func18, Try.ntmps18
  go_wp2_with fail
  refine (l_eqTermS _ _ _).mono ?_
  rintro e w1 ⟨rfl, hb⟩
  have K0 : Blk w1 w.heap.size #[.int .i64 S, .int .i64 L, .int .i64 J] := blk_later hb (blk_alloc (blk_new (by simp)) (.cells #[.int .i64 S, .int .i64 L, .int .i64 J] 33))
  have K1 : Blk w1 (w.heap.size + 1) #[.int .i64 S, .int .i64 L, .int .i64 J] := blk_later hb (blk_new (by simp))
  obtain ⟨a0, a1, a2, _, _, _⟩ := blk3 K0
  obtain ⟨b0, b1, b2, _, _, _⟩ := blk3 K1
  have HB := Lib.hid hb
  clear K0 K1 hb
  go_wp2_with fail
  go_ret
  exact ⟨rfl, btr (bl_alloc (bl_alloc (Below.refl _ _) _) _) HB.out⟩

theorem l_szShellS (v : Value) (xs : List Sh) (left : Int) (w : World) (hv : InSh w v xs) (h0 : 0 ≤ left) (h1 : left ≤ 1048576) :
    Calls Try.prog 23 #[v, .int .i64 left] w fun e w' => e = .returned (.int .i64 (if left - (xs.length : Int) < 0 then -1 else left - (xs.length : Int))) ∧ w = w' := by
  obtain ⟨a, cap, rfl, h2, h3, _⟩ := hv
  unfold maxLen at h3
  by_cases hc : left - (xs.length : Int) < 0
  · rw [if_pos hc]
    go_enter Try.func23, Try.ntmps23
    go_wp2_with fail
    go_ret
    exact ⟨rfl, rfl⟩
  · rw [if_neg hc]
    go_enter Try.func23, Try.ntmps23
    go_wp2_with fail
    go_ret
    exact ⟨rfl, rfl⟩

theorem pair4s {A B C D : Type} (x : A × B × C × D) : ∃ a b c d, x = (a, b, c, d) := ⟨x.1, x.2.1, x.2.2.1, x.2.2.2, rfl⟩

set_option maxRecDepth 100000 in
set_option maxHeartbeats 2000000 in
theorem l_FnExactHundConfig (v : Value) (xs : List Sh) (w : World) (hv : InSh w v xs) :
    Calls Try.prog 8 #[v] w (RTrueS w) := by
  have HV := Lib.hid hv
  clear hv
  by_cases hbig : (1048576 : Int) - (xs.length : Int) < 0
  · go_enter Try.func8, Try.ntmps8
    go_wp2_with fail
    refine (l_szShellS v xs _ _ HV.out (by omega) (by omega)).mono ?_
    rintro e w0 ⟨rfl, rfl⟩
    rw [if_pos hbig]
    go_wp2_with fail
    go_ret
    exact ⟨rfl, Below.refl _ _⟩
  have hn : xs.length ≤ 1048576 := by omega
  obtain ⟨S, L, J, o, hX⟩ := pair4s (hcfR xs)
  have HX := Lib.hid hX
  clear hX
  go_enter Try.func8, Try.ntmps8
  go_wp2_with fail
  refine (l_szShellS v xs _ _ HV.out (by omega) (by omega)).mono ?_
  rintro e w0 ⟨rfl, rfl⟩
  rw [if_neg (by omega)]
  go_wp2_with fail
  refine (l_toShellS v xs _ HV.out hn).mono ?_
  rintro e w1 ⟨v1, rfl, hs1, hb1⟩
  have HB1 := Lib.hid hb1
  have HS1 := Lib.hid hs1
  clear hs1 hb1
  go_wp2_with fail
  refine (s_HundConfig _ xs _ S L J o _ HS1.out (by omega) HX).mono ?_
  rintro e w2 ⟨rfl, hb2⟩
  have HB2 : Hid (Below w.heap.size w w2) := Lib.hid (btr HB1.out hb2)
  clear hb2
  go_wp2_with fail
  refine (l_toShellS v xs _ (InSh.below HV.out (bl_alloc HB2.out _)) hn).mono ?_
  rintro e w3 ⟨v3, rfl, hs3, hb3⟩
  have K3 : Blk w3 w2.heap.size #[.int .i64 S, .int .i64 L, .int .i64 J] := blk_later hb3 (blk_new (by simp))
  have HB3 : Hid (Below w.heap.size w w3) := Lib.hid (btr (bl_alloc HB2.out _) hb3)
  have HK3 := Lib.hid K3
  have HS3 := Lib.hid hs3
  clear K3 hs3 hb3
  go_wp2_with fail
  refine (i_HundConfig _ xs _ S L J o _ HS3.out (by omega) HX).mono ?_
  rintro e w4 ⟨rfl, hb4⟩
  have K4 := blk_later hb4 HK3.out
  have HB4 : Hid (Below w.heap.size w w4) := Lib.hid (btr HB3.out hb4)
  have HS4 := Lib.hid (SRow.kept HS3.out hb4)
  obtain ⟨c0, c1, c2, _, _, _⟩ := blk3 K4
  have HK4 := Lib.hid K4
  have hl4 := K4.lt
  clear K4 hb4
  go_wp2_with fail
  refine (l_eqLevelS _ _ _ _).mono ?_
  rintro e w5 ⟨rfl, hb5⟩
  have HB5 : Hid (Below w.heap.size w w5) := Lib.hid (btr (bl_alloc HB4.out _) hb5)
  have HS5 := Lib.hid (SRow.kept (SRow.alloc HS4.out _) hb5)
  clear hb5 c0 c1 c2
  cases o
  all_goals
    go_wp2_with fail
    refine (l_toShellS v xs _ (InSh.below HV.out HB5.out) hn).mono ?_
    rintro e w6 ⟨v6, rfl, hs6, hb6⟩
    have HB6 : Hid (Below w.heap.size w w6) := Lib.hid (btr HB5.out hb6)
    have HS6 := Lib.hid (SRow.kept HS5.out hb6)
    have HT6 := Lib.hid hs6
    clear hs6 hb6
    go_wp2_with fail
    refine (l_eqShellS _ _ xs _ _ _ HS6.out HT6.out (by omega)).mono ?_
    rintro e w7 ⟨rfl, hb7⟩
    go_wp2_with fail
    go_ret
    exact ⟨rfl, btr HB6.out hb7⟩

end Go.Proofs.Ytpdhbilghmejiaa
