/- The iterator over the doubled projections of a doubled angular momentum: a contract for every loop body. -/
import Derived.RangeFuncNested
import Derived.RangeFuncBound
import Derived.RangeFuncCalls
import Derived.RangeFuncLeaves
import Derived.Shelf.Abstract
import Derived.Shelf.RegionOpen
import Derived.WalkKit
import Derived.OwnWalkIn
import Derived.TacticsInMore
import Derived.LoopNIn
import Derived.LoopIn
import Derived.Test.YtcmbilddlbejgaaDoorPk
import Derived.Test.YtcmbilddlbejgaaDoorProg
namespace Go.Proofs.YtcmbilddlbejgaaDoor
open Go.RowKit Go.Shelf
set_option linter.unusedVariables false

attribute [local go_sem] Oper.semAt_some

/-- A doubled projection of j. -/
abbrev PJ (j : Int) := { m : Int // hasB j m = true }
/-- A round leaves this block as it lay. -/
def KpB (B : Nat) (W W' : World) : Prop := W'.heap[B]? = W.heap[B]?
theorem kpB_t {B : Nat} {X Y Z : World} (h : KpB B X Y) (k : KpB B Y Z) : KpB B X Z := Eq.trans k h
theorem kpB_b {B : Nat} {w : World} (hB : B < w.heap.size) (W : World) (l : Nat) (o o' : Obj) (hl : w.heap.size ≤ l) (h : W.heap[l]? = some o) (_ : o.isCells = false) (_ : o.isWalk = false) : KpB B W (W.putObj l o') :=
  World.putObj_heap_other (by omega)
theorem KpB.cell {B : Nat} {W W' : World} (h : KpB B W W') (i : Nat) : W'.cell? ⟨B, i, none⟩ = W.cell? ⟨B, i, none⟩ := by
  unfold KpB at h
  simp [World.cell?, h]
theorem pj_at {j : Int} (hj : 0 ≤ j ∧ j ≤ 24) {k : Nat} (hk : (k : Int) ≤ j) : hasB j (-j + 2 * (k : Int)) = true := hasB_iff.2 ⟨hj, by omega, by omega⟩

set_option maxRecDepth 100000 in
set_option maxHeartbeats 1000000 in
theorem pj1_in (F : Fence) (n : Nat) (hf : F.fn 26) (hro : F.round = none) (hn : 1 ≤ n) (l Bn : Nat) (j : Int) (hj : 0 ≤ j ∧ j ≤ 24) (J Jx : List (PJ j) → World → Prop)
    (hY : ∀ pre x W, J pre W → pre.length < (j + 1).toNat → YieldAt F (n - 1) Tryd.prog l #[.int .i64 x.1] W fun e W' =>
      (e = .returned (.bool true) ∧ J (pre ++ [x]) W' ∧ KpB Bn W W') ∨ (e = .returned (.bool false) ∧ Jx (pre ++ [x]) W'))
    (W : World) (hBn : W.cell? ⟨Bn, 0, none⟩ = some (.int .i64 j)) (h0 : J [] W) :
    CallsIn F n Tryd.prog 26 #[.func (.yield l) #[] #[], .pointer (some ⟨Bn, 0, none⟩)] W fun e W' => (∃ v, e = .returned v) ∧
      ((∃ ys : List (PJ j), ys.map (·.1) = stepL (-j) (j + 1).toNat ∧ J ys W') ∨ (∃ pre : List (PJ j), pre.map (·.1) <+: stepL (-j) (j + 1).toNat ∧ Jx pre W')) := by
  obtain ⟨j0, j1⟩ := hj
  refine callsIn_of_wp Tryd.func26 rfl hf ?_ hro
  simp only [Tryd.ntmps26, List.size_toArray, List.length_cons, List.length_nil, Nat.reduceAdd, Nat.reduceSub, Array.replicate_succ, Array.replicate_zero, List.push_toArray, List.append_toArray, List.nil_append, List.cons_append]
  gi_wp2
  gi_loopw [3] (fun p wr => ∃ (pre : List (PJ j)) (k : Nat), p = .int .i64 (-j + 2 * (k : Int)) ∧ pre.map (·.1) = stepL (-j) k ∧ pre.length = k ∧ (k : Int) ≤ j + 1 ∧ wr.cell? ⟨Bn, 0, none⟩ = some (.int .i64 j) ∧ J pre wr)
    (fun p wr => (j + 2 - intOf p).toNat)
  case atStart =>
    exact ⟨[], 0, by simp, by simp [stepL], rfl, by simp; omega, hBn, h0⟩
  case round =>
    obtain ⟨pre, k, rfl, hpre, hlen, hk, hB, hJs⟩ := hrel
    by_cases hlast : (k : Int) = j + 1
    · gi_wp2
      go_end0
      exact ⟨⟨_, rfl⟩, .inl ⟨pre, by rw [hpre]; congr 1; omega, hJs⟩⟩
    · have hx := pj_at ⟨j0, j1⟩ (k := k) (by omega)
      obtain ⟨fn, tmps, assign, body, hy, hR⟩ := hY pre ⟨_, hx⟩ wr hJs (by omega)
      dsimp only at hy
      have hxs : (pre ++ [(⟨_, hx⟩ : PJ j)]).map (·.1) = stepL (-j) (k + 1) := by rw [List.map_append, hpre, stepL_succ]; rfl
      gi_wp2
      refine hR.mono ?_
      rintro e W3 (⟨rfl, hJ3, hk3⟩ | ⟨rfl, hJx3⟩)
      · have hB3 : W3.cell? ⟨Bn, 0, none⟩ = some (.int .i64 j) := (hk3.cell 0).trans hB
        gi_wp2
        go_roundw
        case rel => exact ⟨pre ++ [⟨_, hx⟩], k + 1, by congr 1; omega, hxs, by simp [hlen], by omega, hB3, hJ3⟩
        case measure => simp [intOf]; omega
      · gi_wp2
        refine bodyPost_ret (results_none rfl _ _ _) rfl ?_
        refine ⟨⟨_, rfl⟩, .inr ⟨pre ++ [⟨_, hx⟩], ?_, hJx3⟩⟩
        rw [hxs]
        refine ⟨(stepL (-j) (j + 1).toNat).drop (k + 1), ?_⟩
        have : stepL (-j) (k + 1) = (stepL (-j) (j + 1).toNat).take (k + 1) := by
          simp only [stepL, ← List.map_take, List.take_range]; congr 2; omega
        rw [this, List.take_append_drop]

set_option maxHeartbeats 1000000 in
/-- j.projections(): the receiver is boxed; the function value captures the box. -/
theorem pj_in (F : Fence) (n : Nat) (hf : F.fn 20) (hro : F.round = none) (j : Int) (w : World) :
    CallsIn F n Tryd.prog 20 #[.int .i64 j] w fun e w' => e = .returned (.func (.func 26) #[] #[.pointer (some ⟨w.heap.size, 0, none⟩)]) ∧ w' = w.alloc (.cells #[.int .i64 j] 52) := by
  refine callsIn_of_wp Tryd.func20 rfl hf ?_ hro
  simp only [Tryd.ntmps20, List.size_toArray, List.length_cons, List.length_nil, Nat.reduceAdd, Nat.reduceSub, Array.replicate_succ, Array.replicate_zero, List.push_toArray, List.append_toArray, List.nil_append, List.cons_append]
  gi_wp2
  go_ret
  exact ⟨rfl, rfl⟩

theorem pj_stops (F : Fence) (n : Nat) (hf : F.fn 26) (hro : F.round = none) (hn : 1 ≤ n) (Bn : Nat) (j : Int) (hj : 0 ≤ j ∧ j ≤ 24) (w : World) (hBw : Bn < w.heap.size)
    (hc : w.cell? ⟨Bn, 0, none⟩ = some (.int .i64 j)) :
    SeqStopsK F n Tryd.prog 26 #[.pointer (some ⟨Bn, 0, none⟩)] (fun x : PJ j => #[Value.int .i64 x.1]) (KpB Bn) (fun ys => ys.map (·.1) = stepL (-j) (j + 1).toNat) (fun pre => pre.map (·.1) <+: stepL (-j) (j + 1).toNat) (j + 1).toNat w := fun l J Jx W hW _ _ hY h0 =>
  pj1_in F n hf hro hn l Bn j hj J Jx hY W ((hW.cell (p := ⟨Bn, 0, none⟩) hBw).trans hc) h0

/-- BLOCK B HOLDS THESE CELLS. -/
def BoxN (W : World) (B : Nat) (t : TypeId) (vs : Array Value) : Prop := W.heap[B]? = some (.cells vs t (0, 0))
theorem BoxN.lt {W : World} {B : Nat} {t : TypeId} {vs : Array Value} (h : BoxN W B t vs) : B < W.heap.size := (Array.getElem?_eq_some_iff.1 h).1
theorem BoxN.new (W : World) (t : TypeId) (vs : Array Value) : BoxN (W.alloc (.cells vs t)) W.heap.size t vs := World.alloc_heap_new W _
theorem BoxN.same {W W' : World} {B : Nat} {t : TypeId} {vs : Array Value} (h : BoxN W B t vs) (hk : W'.heap[B]? = W.heap[B]?) : BoxN W' B t vs := hk.trans h
theorem BoxN.kept {W W' : World} {row : Option Nat} {B : Nat} {t : TypeId} {vs : Array Value} (h : BoxN W B t vs) (hg : W.grownBy W' row) (hne : some B ≠ row) : BoxN W' B t vs := (hg.block B h.lt hne).trans h
theorem BoxN.alloc {W : World} {B : Nat} {t : TypeId} {vs : Array Value} (h : BoxN W B t vs) (o : Obj) : BoxN (W.alloc o) B t vs := h.kept (World.grownBy_alloc W o none) (by simp)
theorem BoxN.later {W W' : World} {B : Nat} {t : TypeId} {vs : Array Value} (h : BoxN W B t vs) (hb : Below W.heap.size W W') : BoxN W' B t vs := (hb.block B h.lt).trans h
theorem BoxN.set {W : World} {B : Nat} {t : TypeId} {vs : Array Value} (h : BoxN W B t vs) (i : Nat) (v : Value) : BoxN (W.setCell ⟨B, i, none⟩ v) B t (vs.setIfInBounds i v) := by
  unfold BoxN at h ⊢
  simp [World.setCell, Array.getElem?_modify, h]
theorem BoxN.other {W : World} {B B' : Nat} {t : TypeId} {vs : Array Value} (h : BoxN W B t vs) (hne : B ≠ B') (i : Nat) (u : Value) : BoxN (W.setCell ⟨B', i, none⟩ u) B t vs := (Below.heap_setCell W ⟨B', i, none⟩ u B hne).trans h
theorem BoxN.c1 {W : World} {B : Nat} {t : TypeId} {x : Value} (h : BoxN W B t #[x]) : W.cell? ⟨B, 0, none⟩ = some x ∧ W.frozen? ⟨B, 0, none⟩ = false := by
  unfold BoxN at h; simp [World.cell?, World.frozen?, h]
theorem BoxN.c2 {W : World} {B : Nat} {t : TypeId} {x y : Value} (h : BoxN W B t #[x, y]) : W.cell? ⟨B, 0, none⟩ = some x ∧ W.cell? ⟨B, 1, none⟩ = some y ∧ W.frozen? ⟨B, 0, none⟩ = false ∧ W.frozen? ⟨B, 1, none⟩ = false := by
  unfold BoxN at h; simp [World.cell?, World.frozen?, h]
theorem BoxN.c3 {W : World} {B : Nat} {t : TypeId} {x y z : Value} (h : BoxN W B t #[x, y, z]) : W.cell? ⟨B, 0, none⟩ = some x ∧ W.cell? ⟨B, 1, none⟩ = some y ∧ W.cell? ⟨B, 2, none⟩ = some z ∧ W.frozen? ⟨B, 0, none⟩ = false ∧ W.frozen? ⟨B, 1, none⟩ = false ∧ W.frozen? ⟨B, 2, none⟩ = false := by
  unfold BoxN at h; simp [World.cell?, World.frozen?, h]
theorem boxN_own {β : Type} (B : Nat) (t : TypeId) (f : β → Array Value) : Own (fun s W => BoxN W B t (f s)) := fun s X Y row hs hg hrow =>
  hs.kept hg (fun e' => by obtain ⟨o, ho, hc⟩ := hrow B e'.symm; rw [show X.heap[B]? = _ from hs] at ho; cases ho; cases hc)
theorem kpB_boxes {W W' : World} {B : Nat} {t : TypeId} {vs : Array Value} (h : BoxN W B t vs) (h' : BoxN W' B t vs) : KpB B W W' := Eq.trans h' (Eq.symm h)
/-- What a call leaves as it lay. -/
theorem keeps_below {W W' : World} (h : Below W.heap.size W W') (B : Nat) : KeepsFrom B W W' := ⟨h.size, fun k o _ hk _ => (h.block k (Array.getElem?_eq_some_iff.1 hk).1).trans hk⟩

end Go.Proofs.YtcmbilddlbejgaaDoor
