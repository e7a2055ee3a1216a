/- Contracts of LevelsOf, of the program and of the reference. -/
import Derived.Test.YtneihommpncegaaDoorTm
import Derived.Test.YtneihommpncegaaDoorB
import Derived.Test.YtneihommpncegaaDoorRw
import Derived.Deep.RegionHeld3
import Derived.Maps.AppendAt
namespace Go.Proofs.YtneihommpncegaaDoor
open Go.RowKit

theorem infoLevel : (Tryd.prog.info? 26).map (fun i => (i.zero, i.size, i.bytes)) = some (some (.agg #[.int .i64 0, .int .i64 0, .int .i64 0]), 3, 24) := by kernel_rfl

/-- The cells of a level. -/
def lcs (p : Int × Int × Int) : List Value := [.int .i64 p.1, .int .i64 p.2.1, .int .i64 p.2.2]
theorem lcs_len (p : Int × Int × Int) : (lcs p).length = 3 := rfl
def Levels (w : World) (base : Nat) (v : Value) (xs : List (Int × Int × Int)) : Prop := SRow 26 3 lcs w base v xs

/-- The levels of a term. -/
def lvlsL (S L : Int) : List (Int × Int × Int) := if tmB S L = true then (coupledL (2 * L) S).map (fun j => (S, L, j)) else []

/-- The call returns a new slice of these levels. -/
def RLevels (w : World) (xs : List (Int × Int × Int)) (e : Ending) (w' : World) : Prop := ∃ v, e = .returned v ∧ Levels w' w.heap.size v xs ∧ Below w.heap.size w w'

theorem coupled_lenJ (a b : Int) : (coupledL a b).length ≤ 25 := by
  unfold coupledL
  split
  · rename_i h
    simp [coupledOk, inB] at h
    rw [stepL_length]
    omega
  · simp

theorem map_take_snoc {α β : Type} (f : α → β) (xs : List α) (k : Nat) (x : α) (h : xs[k]? = some x) : (xs.take (k + 1)).map f = (xs.take k).map f ++ [f x] := by
  obtain ⟨hk, he⟩ := List.getElem?_eq_some_iff.1 h
  rw [List.take_succ_eq_append_getElem hk, he, List.map_append]
  rfl

theorem grown_cell {a b : World} {row : Option Nat} (h : a.grownBy b row) {g i : Nat} {v : Value} (hc : a.cell? ⟨g, i, none⟩ = some v) (hl : g < a.heap.size) (hne : row ≠ some g) : b.cell? ⟨g, i, none⟩ = some v := by
  rw [h.cell_far ⟨g, i, none⟩ hl (fun e => hne e.symm)]; exact hc

/-- Behind an append: of what lay there only block g0 may have changed. -/
theorem grown_app {a b c : World} {o : Obj} {v : Value} {g0 : Nat} (h : a.grownBy b (some g0)) (hv : ∀ k, v.ownBlock = some k → k = g0 ∨ a.heap.size ≤ k) (hg : (b.alloc o).drew.grownBy c v.ownBlock) : a.grownBy c (some g0) := by
  refine ⟨hg.os.trans h.os, hg.tape.trans h.tape, hg.output.trans h.output, ?_, fun k hk hne => ?_⟩
  · have h1 := hg.size
    have h2 := h.size
    simp at h1
    omega
  · have h2 := h.size
    rw [hg.block k (by simp; omega) ?_]
    · show (b.alloc o).heap[k]? = _
      rw [Below.heap_alloc b o k (by omega)]
      exact h.block k hk hne
    · intro e
      rcases hv k e.symm with h3 | h3
      · subst h3; exact hne rfl
      · omega

set_option maxRecDepth 100000 in
set_option maxHeartbeats 2000000 in
theorem s_LevelsOf (S L : Int) (w : World) :
    Calls Tryd.prog 31 #[.agg #[.int .i64 S, .int .i64 L]] w (RLevels w (lvlsL S L)) := by
  obtain ⟨i0, hi, hz0, hz1, hz2⟩ := info_parts infoLevel
  have HI := Lib.hid (And.intro hi (And.intro hz0 (And.intro hz1 hz2)))
  clear hi hz0 hz1 hz2
  cases ht : tmB S L
  · have E := Lib.hid (show lvlsL S L = [] by simp [lvlsL, ht])
    go_enter Tryd.func31, Tryd.ntmps31
    go_wp2_with fail
    refine (s_TermValid _ _ _).mono ?_
    rintro e w1 ⟨rfl, hb⟩
    rw [ht]
    go_wp2_with fail
    go_ret
    refine ⟨_, rfl, ?_, btr (bl_alloc (bl_alloc (Below.refl _ _) _) _) hb⟩
    rw [E.out]
    exact SRow.kept (SRow.emptyAt (by simp) (by simp)) hb
  · have E := Lib.hid (show lvlsL S L = (coupledL (2 * L) S).map (fun j => (S, L, j)) by simp [lvlsL, ht])
    obtain ⟨⟨S1, S2⟩, L1, L2⟩ := tmB_iff.1 ht
    go_enter Tryd.func31, Tryd.ntmps31
    go_wp2_with fail
    refine (s_TermValid _ _ _).mono ?_
    rintro e w1 ⟨rfl, hb⟩
    have K : Blk w1 w.heap.size #[.int .i64 S, .int .i64 L] := blk_later hb (blk_alloc (blk_new (by simp)) _)
    have O1 : Levels w1 w.heap.size (.slice (some ⟨w.heap.size + 1, 0, none⟩) 0 0) [] := SRow.kept (SRow.emptyAt (by simp) (by simp)) hb
    have HB : Hid (Below w.heap.size w w1) := Lib.hid (btr (bl_alloc (bl_alloc (Below.refl _ _) _) _) hb)
    have hs1 := hb.size
    simp at hs1
    obtain ⟨c0, c1, _, _⟩ := blk2 K
    have HK := Lib.hid K
    have HO1 := Lib.hid O1
    clear K hb O1
    rw [ht]
    go_wp2_with fail
    refine (s_SpinCoupled _ _ _).mono ?_
    rintro e w2 ⟨v, rfl, hv, hb2⟩
    obtain ⟨a, cap, rfl, hm, hc⟩ := Ints.opened hv
    have LEN := coupled_lenJ (2 * L) S
    have HB2 : Hid (Below w.heap.size w w2) := Lib.hid (btr HB.out hb2)
    have HO2 : Hid (Levels w2 w.heap.size (.slice (some ⟨w.heap.size + 1, 0, none⟩) 0 0) []) := Lib.hid (SRow.kept HO1.out hb2)
    have K2 : Blk w2 w.heap.size #[.int .i64 S, .int .i64 L] := blk_later hb2 HK.out
    have hs2 := hb2.size
    have hlt := K2.lt
    obtain ⟨d0, d1, _, _⟩ := blk2 K2
    clear hv hb2 K2 HK HB hm HO1
    generalize coupledL (2 * L) S = xs at *
    have HC := Lib.hid hc
    clear hc
    go_wp2_with fail
    go_loopw [3, 5] (fun v c wr => ∃ k : Nat, k ≤ xs.length ∧ c = .int .i64 k ∧ Levels wr w.heap.size v ((xs.take k).map (fun j => (S, L, j))) ∧ w2.grownBy wr (some (w.heap.size + 1)) ∧ ∀ b, v.ownBlock = some b → b = w.heap.size + 1 ∨ w2.heap.size ≤ b) (fun _ c _ => xs.length - (intOf c).toNat)
    case atStart => exact ⟨0, Nat.zero_le _, rfl, HO2.out, World.grownBy.refl _ _, fun b hb => by simp [Value.ownBlock] at hb; exact .inl hb.symm⟩
    case round =>
      obtain ⟨k, hk, rfl, hO, hG, hV⟩ := hrel
      have HO := Lib.hid hO
      have HG := Lib.hid hG
      have HV := Lib.hid hV
      have hs := hG.size
      have e0 : wr.cell? ⟨w.heap.size, 0, none⟩ = some (.int .i64 S) := grown_cell hG d0 hlt (by simp)
      have e1 : wr.cell? ⟨w.heap.size, 1, none⟩ = some (.int .i64 L) := grown_cell hG d1 hlt (by simp)
      clear hG hV
      by_cases hk2 : k < xs.length
      · rcases HC.out with h | ⟨g, rfl, hg1, hg2, hg⟩
        · subst h; simp at hk2
        have hx := hg k hk2
        have hx2 : wr.cell? ⟨g, k, none⟩ = some (.int .i64 (xs.getD k 0)) := grown_cell HG.out hx hg2 (by intro e; injection e with e; omega)
        have HX : Hid (xs[k]? = some (xs.getD k 0)) := Lib.hid (by rw [List.getD_eq_getElem?_getD, List.getElem?_eq_getElem hk2]; rfl)
        clear hx hg
        generalize xs.getD k 0 = j at *
        have hl : ((xs.take k).map (fun j => ((S, L, j) : Int × Int × Int))).length ≤ 25 := by simp; omega
        generalize hys : (xs.take k).map (fun j => ((S, L, j) : Int × Int × Int)) = ys at hO hl
        have HY := Lib.hid hys
        clear hys
        unfold Levels SRow at hO
        obtain ⟨hi, hz0, hz1, hz2⟩ := HI.out
        have k0 : (0 : Int) ≤ (k : Int) := Int.natCast_nonneg _
        have k1 : (k : Int) < (xs.length : Int) := by omega
        have n1 : u3.ownBlock ≠ some w.heap.size := fun e => by rcases HV.out _ e with h | h <;> omega
        have n2 : u3.ownBlock ≠ some g := fun e => by rcases HV.out _ e with h | h <;> omega
        go_wp2_with fail
        go_region_held3 (fun w' => w'.cell? ⟨w.heap.size, 0, none⟩ = some (.int .i64 S) ∧ w'.cell? ⟨w.heap.size, 1, none⟩ = some (.int .i64 L) ∧ w'.cell? ⟨g, k, none⟩ = some (.int .i64 j))
          (first
            | go_keep
            | (go_split_ands
               refine ⟨?_, ?_, ?_⟩
               · (rw [hgrow.cell_far _ (by simp; omega) (Ne.symm n1)]; assumption)
               · (rw [hgrow.cell_far _ (by simp; omega) (Ne.symm n1)]; assumption)
               · (rw [hgrow.cell_far _ (by simp; omega) (Ne.symm n2)]; assumption)))
          ((refine step_append_lies _ (by rfl) _ _ _ (by rfl) w.heap.size 26 i0 _ 3 24 Tryd.underlying59 hi hz0 hz1 hz2 rfl (by omega) u3 ys.length (ys.flatMap lcs) (by rfl) ((hO.alloc _).drew)
              ⟨wr.heap.size, 0, none⟩ 1 1 (lcs (S, L, j)) (by rfl) (by rfl) (World.news_of_block (cs := #[.int .i64 S, .int .i64 L, .int .i64 j]) (t := 26) (fr := (0, 0)) (heap_alloc_new wr _)) (by simp [Value.oneCell', lcs])
              (by omega) (by unfold maxLen; omega) (by omega) (by simp; omega) (wr.heap.size + 1) (by simp) ?_; intro gg cap w3 hown1 hgrow hat hlt3))
        have A1 : Levels w3 w.heap.size (.slice (some ⟨gg, 0, none⟩) (ys.length + 1) cap) ((xs.take (k + 1)).map (fun j => (S, L, j))) := by rw [map_take_snoc _ _ _ _ HX.out, HY.out]; exact SRow.app hown1
        have A2 : w2.grownBy w3 (some (w.heap.size + 1)) := grown_app HG.out HV.out hgrow
        have A3 : ∀ b, (Value.slice (some ⟨gg, 0, none⟩) (ys.length + 1) cap).ownBlock = some b → b = w.heap.size + 1 ∨ w2.heap.size ≤ b := by
          intro b hb
          simp [Value.ownBlock] at hb
          subst hb
          rcases hat with h | h
          · exact HV.out _ h
          · right; omega
        have H1 := Lib.hid A1
        have H2 := Lib.hid A2
        have H3 := Lib.hid A3
        clear A1 A2 A3 hown1 hgrow hO hat
        go_wp2_with fail
        go_roundw
        case rel => exact ⟨k + 1, by omega, by go_num, H1.out, H2.out, H3.out⟩
        case measure => simp [intOf]; omega
      · obtain rfl : k = xs.length := by omega
        go_wp2_with fail
        go_ret
        refine ⟨_, rfl, ?_, HB2.out.grown HG.out HB2.out.size (fun k hk => by injection hk with hk; omega)⟩
        rw [E.out]
        have := HO.out
        rw [List.take_length] at this
        exact this

end Go.Proofs.YtneihommpncegaaDoor
