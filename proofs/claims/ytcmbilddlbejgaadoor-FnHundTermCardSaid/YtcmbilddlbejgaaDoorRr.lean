/- A region that draws its order, in a round of a loop over an iterator: walked as anywhere. Loops by rounds; the marks of loops over iterators that ran one after the other. -/
import Derived.RangeFuncNested
import Derived.RangeFuncBound
import Derived.RangeFuncCalls
import Derived.RangeFuncLeaves
import Derived.Shelf.Abstract
import Derived.Shelf.RegionOpen
import Derived.WalkKit
import Derived.OwnWalkIn
import Derived.TacticsInMore
import Derived.LoopNIn
import Derived.LoopIn
import Derived.Deep.RegionHeld3
namespace Go.Proofs.YtcmbilddlbejgaaDoor
open Go.RowKit Go.Shelf
set_option linter.unusedVariables false

/-- The one way out. -/
def OnlyN (Q : Exit → Act → World → Prop) : Exit → Act → World → Prop
  | .normal, a, w => Q .normal a w
  | _, _, _ => False
theorem onlyN_out (Q : Exit → Act → World → Prop) : ¬ LetsOut (OnlyN Q) := fun ⟨_, _, h⟩ => h

section
variable {l n : Nat} {P : Program} {ops : Array Oper} {Q : Exit → Act → World → Prop} {md : Region.Mode} {S : World → Prop}
theorem op_round {o : Oper} {a : Act} {w : World} {K K' : Act → World → Prop} (hd : ∀ c, o.op ≠ .defer c) (hK : ∀ a w, K a w → K' a w) (h : o.wp P a w K (OnlyN Q)) : o.wpIn (Fence.wide.inRound l) n P a w K' Q := by
  refine ⟨fun _ _ => trivial, ?_⟩
  unfold Oper.wp at h
  rw [Fence.inRound_round, Oper.semAt_some l a.eval o hd]
  generalize (execOp a.eval o).run P w = r at *
  cases r with
  | ok x w' =>
    cases x <;> simp only [Oper.upon, Oper.uponIn] at h ⊢
    case value v => exact hK _ _ h
    case skip => exact hK _ _ h
    case defer d => exact hK _ _ h
    case enter f args =>
      refine ⟨fun h0 => (by simp [Fence.wide, Fence.inRound] at h0), CallsIn.inRound l ((callsIn_wide (n := n - 1)).2 (Calls.mono h fun e w'' he => ?_))⟩
      cases e with
      | returned v => exact hK _ _ he
      | panicked c => exact he.elim
      | outgrown => exact (onlyN_out Q he).elim
    case row row args =>
      refine ⟨fun h0 => (by simp [Fence.wide, Fence.inRound] at h0), fun c cs _ => ?_⟩
      obtain ⟨v, w'', hv, hs⟩ := h c cs
      exact ⟨v, w'', hK _ _ hv, stepsIn_wide.2 hs⟩
  | halt x w' => cases x <;> simp only [Oper.upon, Oper.uponIn] at h ⊢ <;> exact h.elim
theorem any_round (hd : ∀ (j : Nat) (o : Oper), ops[j]? = some o → ∀ c, o.op ≠ .defer c) : ∀ (fuel : Nat) (listed : Array Bool) (a : Act) (w : World), wpAny P md ops (OnlyN Q) fuel listed a w → wpAnyIn (Fence.wide.inRound l) n P md ops Q fuel listed a w
  | 0, _, _, _, h => h
  | fuel + 1, listed, a, w, h => ⟨h.1, fun i hi => by
      have hh := h.2 i hi
      unfold wpOp at hh
      unfold wpOpIn
      cases ho : ops[i]? with
      | none => rw [ho] at hh; exact any_round hd fuel _ _ _ hh
      | some o =>
        rw [ho] at hh
        simp only at hh ⊢
        by_cases hw : Region.wanted o (yielded ops a.tmps) = true
        · rw [if_pos hw] at hh ⊢
          rcases hh with hh | hh
          · exact op_round (hd i o ho) (fun a w => any_round hd fuel _ a w) hh
          · exact (onlyN_out Q hh.2).elim
        · rw [if_neg hw] at hh ⊢
          exact ⟨fun _ _ => trivial, any_round hd fuel _ _ _ hh⟩⟩
def noDefer (ops : Array Oper) : Bool := ops.all fun o => match o.op with | .defer _ => false | _ => true
theorem noDefer_spec (h : noDefer ops = true) (j : Nat) (o : Oper) (ho : ops[j]? = some o) (c : Call) : o.op ≠ .defer c := fun e => by
  obtain ⟨hj, hoj⟩ := Array.getElem?_eq_some_iff.1 ho
  have h1 := Array.all_eq_true_iff_forall_mem.1 h o (by rw [← hoj]; exact Array.getElem_mem hj)
  rw [e] at h1
  cases h1
/-- THE BEGINNING: the region, in a round. -/
theorem region_round {id : Nat} {a : Act} {w : World} (hm : P.follows .mixedOrders = true) (hd : noDefer ops = true) (hS : S w.drew)
    (h : S w.drew → wpAnyH P .any ops (OnlyN Q) S ops.size (Array.replicate ops.size false) a w.drew) : (Code.region id ops true).wpIn (Fence.wide.inRound l) n P Q a w :=
  wpIn_region_any hm (any_round (noDefer_spec hd) _ _ _ _ (wpAny_of_held _ _ _ _ (h hS)))
end

/-- A loop of M rounds at most, by what holds at the head of round k. -/
theorem loop_inv {F : Fence} {n : Nat} {P : Program} {Q : Exit → Act → World → Prop} {a : Act} {w : World} {c : Code} (M : Nat) (Inv : Nat → Act → World → Prop) (h0 : 0 < M) (hI : Inv 0 a w)
    (h : ∀ k a w, k < M → Inv k a w → c.wpIn F n P (Exit.then (fun a' w' => k + 1 < M ∧ Inv (k + 1) a' w') Q) a w) : (Code.loop c).wpIn F n P Q a w := by
  refine wpIn_loop_rounds M ?_
  have key : ∀ m k a w, k + m = M → k < M → Inv k a w → Code.roundsIn F n P c Q m a w := by
    intro m
    induction m with
    | zero => intro k a w h1 h2 _; omega
    | succ m ih =>
      intro k a w h1 h2 hi
      rw [roundsIn_succ]
      refine wpIn_mono (h k a w h2 hi) fun e a' w' he => ?_
      cases e <;> first | exact he | exact ih (k + 1) a' w' (by omega) he.1 he.2
  exact key M 0 a w (by omega) h0 hI

/-- The marks of loops over iterators. -/
def marks (Ds : List Nat) : List Deferred := Ds.map fun D => { target := .collected D, args := #[] }
def shutAll (w : World) : List Nat → World
  | [] => w
  | D :: Ds => shutAll (w.putObj D (.deferred none)) Ds
theorem leaves_marks {F : Fence} {n : Nat} {P : Program} {fn : Func} {tmps : Array Value} {R : Ending → World → Prop} : ∀ (Ds : List Nat) (w : World), Ds.Nodup → (∀ D ∈ Ds, w.heap[D]? = some (.deferred (some []))) →
    (∃ v, (results fn tmps).run P (shutAll w Ds) = .ok v (shutAll w Ds) ∧ R (.returned v) (shutAll w Ds)) → LeavesInM F n P fn tmps R (marks Ds) .returning w
  | [], w, _, _, h => h
  | D :: Ds, w, hn, hD, h => by
    refine ⟨by simp, .inl ⟨D, _, rfl, run_takeDeferred (hD D (by simp)), ?_⟩⟩
    have hn' := List.nodup_cons.1 hn
    exact leaves_marks Ds _ hn'.2 (fun E hE => (World.putObj_heap_other (fun e => hn'.1 (by rw [← e]; exact hE))).trans (hD E (by simp [hE]))) h
theorem shutAll_grown {a : World} {b : Nat} : ∀ (Ds : List Nat) (w : World), a.grownBy w (some b) → (∀ D ∈ Ds, a.heap.size ≤ D) → a.grownBy (shutAll w Ds) (some b)
  | [], _, h, _ => h
  | D :: Ds, w, h, hD => shutAll_grown Ds _ ⟨h.os, h.tape, h.output, by simpa using h.size, fun k hk hne => (World.putObj_heap_other (by have := hD D (by simp); omega)).trans (h.block k hk hne)⟩ (fun E hE => hD E (by simp [hE]))

end Go.Proofs.YtcmbilddlbejgaaDoor
