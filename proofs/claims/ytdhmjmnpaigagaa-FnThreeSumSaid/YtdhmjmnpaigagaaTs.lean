/- impl.ThreeSum: a loop over an iterator in a loop over an iterator. -/
import Derived.Test.YtdhmjmnpaigagaaIt
import Derived.Test.YtdhmjmnpaigagaaTh
import Derived.Test.YtdhmjmnpaigagaaPt3
namespace Go.Proofs.Ytdhmjmnpaigagaa
open Go.RowKit Go.Shelf
set_option linter.unusedVariables false

attribute [local go_sem] Oper.semAt_some

/-- The function's own blocks: its boxed parameters, its results, the triad, the sum, ok, and the box of the outer iterator. -/
def ThB (p q : Nat) (a b c N D : Int) (W : World) : Prop :=
  BoxN W p 3 #[.int .i64 b] ∧ BoxN W (p + 1) 3 #[.int .i64 c] ∧ BoxN W (p + 1 + 1) 23 #[.int .i64 0, .int .i64 0] ∧ BoxN W (p + 1 + 1 + 1) 4 #[.bool false] ∧ BoxN W (p + 1 + 1 + 1 + 1) 43 #[.int .i64 a, .int .i64 b, .int .i64 c] ∧ BoxN W q 23 #[.int .i64 N, .int .i64 D] ∧ BoxN W (q + 1) 4 #[.bool true] ∧ BoxN W (q + 1 + 1) 46 #[.int .i64 a]
theorem thB_own (p q : Nat) (a b c : Int) : Own (fun (s : Int × Int) W => ThB p q a b c s.1 s.2 W) := fun s X Y row hs hg hr => by
  obtain ⟨h0, h1, h2, h3, h4, h5, h6, h7⟩ := hs
  exact ⟨boxN_own p _ (fun (_ : Unit) => _) () X Y row h0 hg hr, boxN_own _ _ (fun (_ : Unit) => _) () X Y row h1 hg hr, boxN_own _ _ (fun (_ : Unit) => _) () X Y row h2 hg hr, boxN_own _ _ (fun (_ : Unit) => _) () X Y row h3 hg hr, boxN_own _ _ (fun (_ : Unit) => _) () X Y row h4 hg hr, boxN_own _ _ (fun (_ : Unit) => _) () X Y row h5 hg hr, boxN_own _ _ (fun (_ : Unit) => _) () X Y row h6 hg hr, boxN_own _ _ (fun (_ : Unit) => _) () X Y row h7 hg hr⟩
theorem thB_later {p q : Nat} {a b c N D : Int} {W W' : World} (h : ThB p q a b c N D W) (hb : Below W.heap.size W W') : ThB p q a b c N D W' := by
  obtain ⟨h0, h1, h2, h3, h4, h5, h6, h7⟩ := h
  exact ⟨h0.later hb, h1.later hb, h2.later hb, h3.later hb, h4.later hb, h5.later hb, h6.later hb, h7.later hb⟩
theorem thB_alloc {p q : Nat} {a b c N D : Int} {W : World} (h : ThB p q a b c N D W) (o : Obj) : ThB p q a b c N D (W.alloc o) := by
  obtain ⟨h0, h1, h2, h3, h4, h5, h6, h7⟩ := h
  exact ⟨h0.alloc o, h1.alloc o, h2.alloc o, h3.alloc o, h4.alloc o, h5.alloc o, h6.alloc o, h7.alloc o⟩
theorem sum_own (p q : Nat) (a b c : Int) {β : Type} (f : β → Int × Int × Bool) : Own (fun (s : β) W => ∃ N D, f s = (N, D, true) ∧ ThB p q a b c N D W) := fun s X Y row hs hg hr => by
  obtain ⟨N, D, h1, h2⟩ := hs
  exact ⟨N, D, h1, thB_own p q a b c (N, D) X Y row h2 hg hr⟩
theorem map_snoc {j : Int} (pre : List (PJ j)) (x : PJ j) {β : Type} (f : β → Int → β) (t : β) : ((pre ++ [x]).map (·.1)).foldl f t = f ((pre.map (·.1)).foldl f t) x.1 := by simp
theorem hasB_turn {c x y : Int} {v : Bool} (h : hasB c (-x - y) = v) : hasB c (x + y) = v := by rw [← h, ← hasB_neg, show -(x + y) = -x - y by omega]
theorem pair4 {A B C E : Type} (x : A × B × C × E) : ∃ a b c d, x = (a, b, c, d) := ⟨x.1, x.2.1, x.2.2.1, x.2.2.2, rfl⟩

set_option maxRecDepth 100000 in
set_option maxHeartbeats 4000000 in
theorem i_ThreeSum_in (n : Nat) (hn : 6 ≤ n) (a b c : Int) (w : World) (ht : tdB a b c = true) :
    CallsIn Fence.wide n Try.prog 6 #[.int .i64 a, .int .i64 b, .int .i64 c] w fun e W' => e = .returned (rv (1, 1, true)) ∧ Below w.heap.size w W' := by
  have h1 : 1 ≤ n := by omega
  have hone := Lib.hid (thSum_one ht)
  obtain ⟨⟨a0, a1⟩, ⟨b0, b1⟩, ⟨c0, c1⟩, _⟩ := tdB_iff.1 ht
  refine callsIn_of_wp_marks Try.func6 rfl trivial ?_ rfl
  simp only [Try.ntmps6, List.size_toArray, List.length_cons, List.length_nil, Nat.reduceAdd, Nat.reduceSub, Array.replicate_succ, Array.replicate_zero, List.push_toArray, List.append_toArray, List.nil_append, List.cons_append]
  gi_wp2_with (refine ⟨trivial, ?_⟩; (gi_at_call 15; refine (callsIn_wide.2 (i_triadValid _ _ _ _)).mono ?_; rintro e w' ⟨rfl, rfl⟩))
  refine ⟨trivial, ?_⟩
  refine (callsIn_wide.2 (i_whole _ _)).mono ?_
  rintro e w1 ⟨rfl, hb1⟩
  have z0 : BoxN w1 w.heap.size 3 #[.int .i64 b] := (((((BoxN.new w 3 #[.int .i64 b]).alloc (.cells #[.int .i64 c] 3)).alloc (.cells #[.int .i64 0, .int .i64 0] 23)).alloc (.cells #[.bool false] 4)).alloc (.cells #[.int .i64 a, .int .i64 b, .int .i64 c] 43)).later hb1
  have z1 := ((((BoxN.new (w.alloc (.cells #[.int .i64 b] 3)) 3 #[.int .i64 c]).alloc (.cells #[.int .i64 0, .int .i64 0] 23)).alloc (.cells #[.bool false] 4)).alloc (.cells #[.int .i64 a, .int .i64 b, .int .i64 c] 43)).later hb1
  have z2 := (((BoxN.new ((w.alloc (.cells #[.int .i64 b] 3)).alloc (.cells #[.int .i64 c] 3)) 23 #[.int .i64 0, .int .i64 0]).alloc (.cells #[.bool false] 4)).alloc (.cells #[.int .i64 a, .int .i64 b, .int .i64 c] 43)).later hb1
  have z3 := ((BoxN.new (((w.alloc (.cells #[.int .i64 b] 3)).alloc (.cells #[.int .i64 c] 3)).alloc (.cells #[.int .i64 0, .int .i64 0] 23)) 4 #[.bool false]).alloc (.cells #[.int .i64 a, .int .i64 b, .int .i64 c] 43)).later hb1
  have z4 := (BoxN.new ((((w.alloc (.cells #[.int .i64 b] 3)).alloc (.cells #[.int .i64 c] 3)).alloc (.cells #[.int .i64 0, .int .i64 0] 23)).alloc (.cells #[.bool false] 4)) 43 #[.int .i64 a, .int .i64 b, .int .i64 c]).later hb1
  simp only [World.size_alloc] at z1 z2 z3 z4
  have hz1 := hb1.size
  simp only [World.size_alloc] at hz1
  have B1 : Below w.heap.size w w1 := by (repeat' (first | exact Below.refl _ _ | refine btr ?_ hb1 | refine bl_alloc ?_ _))
  clear hb1
  gi_wp2_with (refine ⟨trivial, ?_⟩; (gi_at_call 17; refine (pj_in Fence.wide (n - 1) trivial rfl _ _).mono ?_; rintro e w' ⟨rfl, rfl⟩))
  have hT0 : ThB w.heap.size w1.heap.size a b c 0 1 (((w1.alloc (.cells #[.int .i64 0, .int .i64 1] 23)).alloc (.cells #[.bool true] 4)).alloc (.cells #[.int .i64 a] 46)) := by
    have e1 := BoxN.new (w1.alloc (.cells #[.int .i64 0, .int .i64 1] 23)) 4 #[.bool true]
    have e2 := BoxN.new ((w1.alloc (.cells #[.int .i64 0, .int .i64 1] 23)).alloc (.cells #[.bool true] 4)) 46 #[.int .i64 a]
    simp only [World.size_alloc] at e1 e2
    exact ⟨((z0.alloc _).alloc _).alloc _, ((z1.alloc _).alloc _).alloc _, ((z2.alloc _).alloc _).alloc _, ((z3.alloc _).alloc _).alloc _, ((z4.alloc _).alloc _).alloc _, ((BoxN.new w1 _ _).alloc _).alloc _, e1.alloc _, e2⟩
  have B0 : Below w.heap.size w (((w1.alloc (.cells #[.int .i64 0, .int .i64 1] 23)).alloc (.cells #[.bool true] 4)).alloc (.cells #[.int .i64 a] 46)) := bl_alloc (bl_alloc (bl_alloc B1 _) _) _
  have hsz : (((w1.alloc (.cells #[.int .i64 0, .int .i64 1] 23)).alloc (.cells #[.bool true] 4)).alloc (.cells #[.int .i64 a] 46)).heap.size = w1.heap.size + 3 := by simp
  clear z0 z1 z2 z3 z4 B1
  obtain ⟨W0, hW0⟩ : ∃ W0, (((w1.alloc (.cells #[.int .i64 0, .int .i64 1] 23)).alloc (.cells #[.bool true] 4)).alloc (.cells #[.int .i64 a] 46)) = W0 := ⟨_, rfl⟩
  rw [hW0] at hT0 B0 hsz ⊢
  clear hW0
  have cA := hT0.2.2.2.2.2.2.2.c1.1
  refine wpIn_rangeFunc_ownH rfl h1 (gf := 32) (lb := #[.pointer (some ⟨w1.heap.size + 1 + 1, 0, none⟩)]) rfl trivial (enters_of Try.func32 (by kernel_rfl) rfl)
    (pj_stops Fence.wide (n - 1) trivial rfl (by omega) (w1.heap.size + 1 + 1) a ⟨a0, by omega⟩ W0 (by omega) cA) kpB_t (kpB_b (by omega)) (Below.refl _ _) (fun _ => rfl)
    (fun pre W => (∃ N D, (pre.map (·.1)).foldl (thM a b c) (0, 1, true) = (N, D, true) ∧ ThB w.heap.size w1.heap.size a b c N D W) ∧ Below w.heap.size w W)
    (fun k pre W => k = .ret ∧ ((pre.map (·.1)).foldl (thM a b c) (0, 1, true)).2.2 = false)
    (OwnFrom.and (Own.from (sum_own _ _ _ _ _ _) _) (ownFrom_below (Nat.le_refl _) (by omega)))
    (fun k => ownFrom_pure _ _)
    ⟨⟨0, 1, rfl, hT0⟩, B0⟩
    (fun x a' W => ∃ Bx, w1.heap.size + 1 + 1 < Bx ∧ BoxN W Bx 3 #[.int .i64 x.1] ∧ a' = { tmps := #[.int .i64 a, .int .i64 b, .int .i64 c, undef, .pointer (some ⟨w.heap.size, 0, none⟩), .pointer (some ⟨w.heap.size + 1, 0, none⟩), .pointer (some ⟨w.heap.size + 1 + 1, 0, none⟩), .pointer (some ⟨w.heap.size + 1 + 1 + 1, 0, none⟩), .pointer (some ⟨w.heap.size + 1 + 1 + 1 + 1, 0, none⟩), .pointer (some ⟨w1.heap.size, 0, none⟩), .pointer (some ⟨w1.heap.size + 1, 0, none⟩), .pointer (some ⟨Bx, 0, none⟩), undef, undef, undef, .int .i64 a, .int .i64 b, .int .i64 c, .bool true, .bool false, undef, .int .i64 a, .int .i64 b, .int .i64 c, .agg #[.int .i64 a, .int .i64 b, .int .i64 c], .agg #[.int .i64 0, .int .i64 1], .int .i64 a, .func (.func 32) #[] #[.pointer (some ⟨w1.heap.size + 1 + 1, 0, none⟩)], .int .i64 x.1, undef, undef, undef, undef, undef, undef, undef, undef, undef, undef, undef, undef, undef, undef, undef, undef, undef, undef, undef, undef, undef, undef, undef, undef, undef, undef, undef, undef, undef, undef, undef, undef, undef, undef, undef, undef], defers := [] })
    (fun x a' _ X Y row hs hg hr => by obtain ⟨Bx, e1, e2, e3⟩ := hs; exact ⟨Bx, e1, boxN_own Bx 3 (fun (_ : Unit) => #[Value.int .i64 x.1]) () X Y row e2 hg (fun r e => (hr r e).2), e3⟩)
    ?assign ?body ?done ?stop
  case assign =>
    rintro l pre x W K ⟨⟨N, D, hf, hT⟩, hB⟩ hK
    gi_wp2
    exact hK _ _ ((KeepsOthers.alloc _ _).from _) (kpB_boxes hT.2.2.2.2.2.2.2 (hT.2.2.2.2.2.2.2.alloc _)) ⟨⟨N, D, hf, thB_alloc hT _⟩, bl_alloc hB _⟩ ⟨W.heap.size, hT.2.2.2.2.2.2.2.lt, BoxN.new W 3 _, rfl⟩
  case body =>
    rintro l pre x a' W hl ⟨r, hr⟩ ⟨⟨N0, D0, hf, hT⟩, hB⟩ ⟨Bx, hBx, bX, rfl⟩ hlt
    have hxb := hasB_iff.1 x.2
    have hT' := hT
    obtain ⟨T0, T1, T2, T3, T4, T5, T6, T7⟩ := hT'
    obtain ⟨d0, g0⟩ := T0.c1
    have h1' : 1 ≤ n - 1 - 1 := by omega
    gi_wp2_with (refine ⟨trivial, ?_⟩; (gi_at_call 17; refine (CallsIn.inRound l (pj_in Fence.wide (n - 1 - 1 - 1) trivial rfl _ _)).mono ?_; rintro e w' ⟨rfl, rfl⟩))
    have hsW := hB.size
    have l7 := T7.lt
    have hr' : (W.alloc (.cells #[.int .i64 b] 46)).heap[l]? = some (.loop r) := (Below.heap_alloc W _ l (Array.getElem?_eq_some_iff.1 hr).1).trans hr
    refine wpIn_rangeFunc_ownN (l₀ := l) (r₀ := r) rfl hr' h1' (gf := 32) (lb := #[.pointer (some ⟨W.heap.size, 0, none⟩)]) rfl trivial (enters_of Try.func32 (by kernel_rfl) rfl)
      ((pj_stops Fence.wide (n - 1 - 1 - 1) trivial rfl (by omega) W.heap.size b ⟨b0, by omega⟩ _ (by simp) (BoxN.new W _ _).c1.1).inRound l) kpB_t (kpB_b (by simp)) (Below.refl _ _) (fun _ => rfl)
      (fun pre' W' => (((∃ N D, (pre'.map (·.1)).foldl (thN a b c x.1) (N0, D0, true) = (N, D, true) ∧ ThB w.heap.size w1.heap.size a b c N D W') ∧ BoxN W' Bx 3 #[.int .i64 x.1]) ∧ BoxN W' W.heap.size 46 #[.int .i64 b]) ∧ (Below w.heap.size W W' ∧ KeepsFrom W0.heap.size W W'))
      (fun k pre' W' => (k = .ret ∧ ((pre'.map (·.1)).foldl (thN a b c x.1) (N0, D0, true)).2.2 = false) ∧ KeepsFrom W0.heap.size W W')
      (OwnFrom.and (OwnFrom.and (OwnFrom.and (Own.from (sum_own _ _ _ _ _ _) _) (Own.from (boxN_own _ _ _) _)) (Own.from (boxN_own _ _ _) _)) (OwnFrom.and (ownFrom_below hsW (by simp; omega)) (ownFrom_keepsFrom (by simp))))
      (fun k => OwnFrom.and (ownFrom_pure _ _) (ownFrom_keepsFrom (by simp)))
      ⟨⟨⟨⟨N0, D0, rfl, thB_alloc hT _⟩, bX.alloc _⟩, BoxN.new W _ _⟩, (Below.refl _ W).alloc hsW _, (KeepsOthers.alloc _ _).from _⟩
      (fun y a'' _ => a'' = { tmps := #[.int .i64 a, .int .i64 b, .int .i64 c, undef, .pointer (some ⟨w.heap.size, 0, none⟩), .pointer (some ⟨w.heap.size + 1, 0, none⟩), .pointer (some ⟨w.heap.size + 1 + 1, 0, none⟩), .pointer (some ⟨w.heap.size + 1 + 1 + 1, 0, none⟩), .pointer (some ⟨w.heap.size + 1 + 1 + 1 + 1, 0, none⟩), .pointer (some ⟨w1.heap.size, 0, none⟩), .pointer (some ⟨w1.heap.size + 1, 0, none⟩), .pointer (some ⟨Bx, 0, none⟩), .int .i64 y.1, undef, undef, .int .i64 a, .int .i64 b, .int .i64 c, .bool true, .bool false, undef, .int .i64 a, .int .i64 b, .int .i64 c, .agg #[.int .i64 a, .int .i64 b, .int .i64 c], .agg #[.int .i64 0, .int .i64 1], .int .i64 a, .func (.func 32) #[] #[.pointer (some ⟨w1.heap.size + 1 + 1, 0, none⟩)], .int .i64 x.1, .int .i64 b, .func (.func 32) #[] #[.pointer (some ⟨W.heap.size, 0, none⟩)], .int .i64 y.1, undef, undef, undef, undef, undef, undef, undef, undef, undef, undef, undef, undef, undef, undef, undef, undef, undef, undef, undef, undef, undef, undef, undef, undef, undef, undef, undef, undef, undef, undef, undef, undef, undef], defers := [] })
      (fun _ _ _ _ _ _ hs _ _ => hs)
      ?assign2 ?body2 ?done2 ?stop2
    case assign2 =>
      rintro l2 pre' y W' K hi hK
      gi_wp2
      exact hK _ _ (KeepsFrom.refl _ _) rfl hi rfl
    case body2 =>
      rintro l2 pre' y a'' W' _ _ ⟨⟨⟨⟨N, D, hf2, hT2⟩, bX2⟩, bS2⟩, hBW, hKF⟩ rfl _
      have hyb := hasB_iff.1 y.2
      obtain ⟨R0, R1, R2, R3, R4, R5, R6, R7⟩ := hT2
      obtain ⟨d1, g1⟩ := R1.c1
      obtain ⟨d4a, d4b, d4c, _, _, _⟩ := R4.c3
      obtain ⟨dx, _⟩ := bX2.c1
      have h1'' : 1 ≤ n - 1 - 1 - 1 - 1 := by omega
      cases hc : hasB c (-x.1 - y.1)
      · have hc' : hasB c (x.1 + y.1) = false := hasB_turn hc
        gi_wp2_with (refine ⟨trivial, ?_⟩; (gi_at_call 18; refine (CallsIn.inRound l2 (callsIn_wide.2 (i_SpinHas _ _ _))).mono ?_; rintro e w' ⟨rfl, rfl⟩))
        exact ⟨KeepsFrom.refl _ _, rfl, ⟨⟨⟨N, D, by rw [map_snoc, hf2, thN_no hc'], ⟨R0, R1, R2, R3, R4, R5, R6, R7⟩⟩, bX2⟩, bS2⟩, hBW, hKF⟩
      · have hc' : hasB c (x.1 + y.1) = true := hasB_turn hc
        have hth : thOk a b c x.1 y.1 (-x.1 - y.1) = true := thOk_iff.2 ⟨cpOk_iff.2 ⟨ht, x.2, y.2⟩, hc⟩
        obtain ⟨S1, N1, D1, o1, hx⟩ := pair4 (thI a b c x.1 y.1 (-x.1 - y.1))
        obtain rfl : o1 = true := by
          unfold thI at hx
          rw [hth] at hx
          simp only [if_true] at hx
          split at hx <;> (simp at hx; first | exact hx.2.2.2.symm | exact hx.2.2.2)
        have HX := Lib.hid hx
        have HT := Lib.hid hth
        clear hx hth
        gi_wp2_with (refine ⟨trivial, ?_⟩; (gi_at_call 18; refine (CallsIn.inRound l2 (callsIn_wide.2 (i_SpinHas _ _ _))).mono ?_; rintro e w' ⟨rfl, rfl⟩))
        refine ⟨trivial, ?_⟩
        refine (CallsIn.inRound l2 (callsIn_wide.2 (i_symbol a b c x.1 y.1 (-x.1 - y.1) W' HT.out))).mono ?_
        rintro e w2 ⟨rfl, hb2⟩
        rw [HX.out]
        simp only [rtv]
        have hz2 := hb2.size
        have K2 : ∀ B, KeepsFrom B W' w2 := fun B => keeps_below hb2 B
        have U0 := R0.later hb2
        have U1 := R1.later hb2
        have U2 := R2.later hb2
        have U3 := R3.later hb2
        have U4 := R4.later hb2
        have U5 := R5.later hb2
        have U6 := R6.later hb2
        have U7 := R7.later hb2
        have UX := bX2.later hb2
        have US := bS2.later hb2
        have hB2 : Below w.heap.size W w2 := hBW.trans (hb2.mono (Nat.le_trans hsW hBW.size))
        obtain ⟨e5a, e5b, k5a, k5b⟩ := U5.c2
        obtain ⟨e6, k6⟩ := U6.c1
        have l5 := U5.lt
        have l6 := U6.lt
        obtain ⟨N2, D2, o2, hy2⟩ := pair3 (ratAdd N D N1 D1)
        have HY := Lib.hid hy2
        have hst := Lib.hid (thN_yes (N := N) (D := D) (o := true) hc' HX.out)
        clear hy2 hb2 R0 R1 R2 R3 R4 R5 R6 R7 bX2 dx d1 d4a d4b d4c
        gi_wp2
        refine ⟨trivial, ?_⟩
        refine (CallsIn.inRound l2 (callsIn_wide.2 (i_RatAdd2 _ _ _ _ _ _ _ _ HY))).mono ?_
        rintro e w3 ⟨rfl, hb3⟩
        have hz3 := hb3.size
        simp only [World.size_alloc] at hz3
        have K3 : ∀ B, KeepsFrom B W' w3 := fun B => (K2 B).trans (((KeepsOthers.alloc w2 (.cells #[.int .i64 S1, .int .i64 N1, .int .i64 D1] 38)).from _).trans (keeps_below hb3 B))
        have V0 := (U0.alloc (.cells #[.int .i64 S1, .int .i64 N1, .int .i64 D1] 38)).later hb3
        have V1 := (U1.alloc (.cells #[.int .i64 S1, .int .i64 N1, .int .i64 D1] 38)).later hb3
        have V2 := (U2.alloc (.cells #[.int .i64 S1, .int .i64 N1, .int .i64 D1] 38)).later hb3
        have V3 := (U3.alloc (.cells #[.int .i64 S1, .int .i64 N1, .int .i64 D1] 38)).later hb3
        have V4 := (U4.alloc (.cells #[.int .i64 S1, .int .i64 N1, .int .i64 D1] 38)).later hb3
        have V5 := (U5.alloc (.cells #[.int .i64 S1, .int .i64 N1, .int .i64 D1] 38)).later hb3
        have V6 := (U6.alloc (.cells #[.int .i64 S1, .int .i64 N1, .int .i64 D1] 38)).later hb3
        have V7 := (U7.alloc (.cells #[.int .i64 S1, .int .i64 N1, .int .i64 D1] 38)).later hb3
        have VX := (UX.alloc (.cells #[.int .i64 S1, .int .i64 N1, .int .i64 D1] 38)).later hb3
        have VS := (US.alloc (.cells #[.int .i64 S1, .int .i64 N1, .int .i64 D1] 38)).later hb3
        have lz2 : w.heap.size ≤ w2.heap.size := Nat.le_trans hsW hB2.size
        have hB3 : Below w.heap.size w3 w3 → Below w.heap.size W w3 := fun _ => (hB2.alloc lz2 (.cells #[.int .i64 S1, .int .i64 N1, .int .i64 D1] 38)).trans (hb3.mono (by simp; omega))
        have hB3 := hB3 (Below.refl _ _)
        clear U0 U1 U2 U3 U4 U5 U6 U7 UX US K2 hb3 e5a e5b k5a k5b e6 k6 hB2
        obtain ⟨e5a, e5b, k5a, k5b⟩ := V5.c2
        obtain ⟨e6, k6⟩ := V6.c1
        obtain ⟨e2a, e2b, k2a, k2b⟩ := V2.c2
        obtain ⟨e3, k3⟩ := V3.c1
        have l2' := V2.lt
        have l3' := V3.lt
        have ls := hst.out
        rw [HY.out] at ls
        cases o2
        · gi_wp2
          have K4 : ∀ B, KeepsFrom B w3 ((((((w3.setCell ⟨w1.heap.size, 0, none⟩ (.int .i64 N2)).setCell ⟨w1.heap.size, 1, none⟩ (.int .i64 D2)).setCell ⟨w1.heap.size + 1, 0, none⟩ (.bool false)).setCell ⟨w.heap.size + 1 + 1, 0, none⟩ (.int .i64 0)).setCell ⟨w.heap.size + 1 + 1, 1, none⟩ (.int .i64 0)).setCell ⟨w.heap.size + 1 + 1 + 1, 0, none⟩ (.bool false)) := fun B => (KeepsOthers.trans (KeepsOthers.trans (KeepsOthers.trans (KeepsOthers.trans (KeepsOthers.trans (KeepsOthers.setCell _ _ _) (KeepsOthers.setCell _ _ _)) (KeepsOthers.setCell _ _ _)) (KeepsOthers.setCell _ _ _)) (KeepsOthers.setCell _ _ _)) (KeepsOthers.setCell _ _ _)).from B
          exact ⟨(K3 _).trans (K4 _), ⟨rfl, by rw [map_snoc, hf2, ls]; rfl⟩, hKF.trans ((K3 _).trans (K4 _))⟩
        · gi_wp2
          have K4 : ∀ B, KeepsFrom B w3 (((w3.setCell ⟨w1.heap.size, 0, none⟩ (.int .i64 N2)).setCell ⟨w1.heap.size, 1, none⟩ (.int .i64 D2)).setCell ⟨w1.heap.size + 1, 0, none⟩ (.bool true)) := fun B => (KeepsOthers.trans (KeepsOthers.trans (KeepsOthers.setCell _ _ _) (KeepsOthers.setCell _ _ _)) (KeepsOthers.setCell _ _ _)).from B
          have oth : ∀ {B : Nat} {t : TypeId} {vs : Array Value}, BoxN w3 B t vs → B ≠ w1.heap.size → B ≠ w1.heap.size + 1 → BoxN (((w3.setCell ⟨w1.heap.size, 0, none⟩ (.int .i64 N2)).setCell ⟨w1.heap.size, 1, none⟩ (.int .i64 D2)).setCell ⟨w1.heap.size + 1, 0, none⟩ (.bool true)) B t vs := fun h n1 n2 => ((h.other n1 _ _).other n1 _ _).other n2 _ _
          have VS' := oth VS (by omega) (by omega)
          refine ⟨(K3 _).trans (K4 _), kpB_boxes bS2 VS', ⟨⟨⟨N2, D2, by rw [map_snoc, hf2, ls]; rfl, oth V0 (by omega) (by omega), oth V1 (by omega) (by omega), oth V2 (by omega) (by omega), oth V3 (by omega) (by omega), oth V4 (by omega) (by omega), ?_, ?_, oth V7 (by omega) (by omega)⟩, oth VX (by omega) (by omega)⟩, VS'⟩, ?_, hKF.trans ((K3 _).trans (K4 _))⟩
          · exact ((V5.set 0 (.int .i64 N2)).set 1 (.int .i64 D2)).other (by omega) _ _
          · exact ((V6.other (B' := w1.heap.size) (by omega) 0 (.int .i64 N2)).other (B' := w1.heap.size) (by omega) 1 (.int .i64 D2)).set 0 (.bool true)
          · exact ((hB3.setCell (p := ⟨w1.heap.size, 0, none⟩) (by simp; omega) _).setCell (p := ⟨w1.heap.size, 1, none⟩) (by simp; omega) _).setCell (p := ⟨w1.heap.size + 1, 0, none⟩) (by simp; omega) _
    case done2 =>
      rintro ys' W' hys ⟨⟨⟨⟨N, D, hf2, hT2⟩, bX2⟩, bS2⟩, hBW, hKF⟩
      gi_wp2
      refine ⟨hKF, kpB_boxes T7 hT2.2.2.2.2.2.2.2, ⟨N, D, ?_, hT2⟩, hB.trans hBW⟩
      rw [map_snoc, hf, thM, ← hys]
      exact hf2
    case stop2 =>
      rintro k pre' W' hpre ⟨⟨rfl, hfail⟩, hKF⟩
      gi_wp2
      refine ⟨hKF, rfl, ?_⟩
      rw [map_snoc, hf]
      exact fail_prefix (fun t m => thN_fail a b c x.1 m t) hpre hfail
  case done =>
    rintro D ys W hD hys ⟨⟨N, D', hf, hT⟩, hB⟩ hK
    have h2 := hone.out
    unfold thSum at h2
    rw [hys, h2] at hf
    cases hf
    obtain ⟨T0, T1, T2, T3, T4, T5, T6, T7⟩ := hT
    obtain ⟨d2a, d2b, g2a, g2b⟩ := T2.c2
    obtain ⟨d3, g3⟩ := T3.c1
    obtain ⟨d5a, d5b, _, _⟩ := T5.c2
    gi_wp2
    have l0 := T0.lt
    have l5 := T5.lt
    have l2 := T2.lt
    have l3 := T3.lt
    have hK' : (((W.setCell ⟨w.heap.size + 1 + 1, 0, none⟩ (.int .i64 1)).setCell ⟨w.heap.size + 1 + 1, 1, none⟩ (.int .i64 1)).setCell ⟨w.heap.size + 1 + 1 + 1, 0, none⟩ (.bool true)).heap[D]? = some (.deferred (some [])) := ((KeepsOthers.setCell W ⟨w.heap.size + 1 + 1, 0, none⟩ (.int .i64 1)).trans ((KeepsOthers.setCell _ ⟨w.heap.size + 1 + 1, 1, none⟩ (.int .i64 1)).trans (KeepsOthers.setCell _ ⟨w.heap.size + 1 + 1 + 1, 0, none⟩ (.bool true)))).same D _ hK rfl
    refine ⟨by simp, .inl ⟨_, _, rfl, run_takeDeferred hK', ?_⟩⟩
    have q2 := (((T2.set 0 (.int .i64 1)).set 1 (.int .i64 1)).other (B' := w.heap.size + 1 + 1 + 1) (by omega) 0 (.bool true)).kept (grownBy_putObj' _ D (.deferred none)) (fun e => by cases e; omega)
    have q3 := (((T3.other (B' := w.heap.size + 1 + 1) (by omega) 0 (.int .i64 1)).other (B' := w.heap.size + 1 + 1) (by omega) 1 (.int .i64 1)).set 0 (.bool true)).kept (grownBy_putObj' _ D (.deferred none)) (fun e => by cases e; omega)
    obtain ⟨x2a, x2b, _, _⟩ := BoxN.c2 q2
    obtain ⟨x3, _⟩ := BoxN.c1 q3
    refine ⟨rv (1, 1, true), ?_, rfl, (((hB.setCell (p := ⟨w.heap.size + 1 + 1, 0, none⟩) (by simp; omega) _).setCell (p := ⟨w.heap.size + 1 + 1, 1, none⟩) (by simp; omega) _).setCell (p := ⟨w.heap.size + 1 + 1 + 1, 0, none⟩) (by simp; omega) _).trans (belowK_b (w := w) (Nat.le_refl _) _ D _ _ (by omega) hK' rfl rfl)⟩
    simp [results, Try.f6, go_sem, x2a, x2b, x3, rv]
  case stop =>
    rintro D k pre W hD hpre ⟨rfl, hfail⟩ hK
    have := fail_prefix (fun t m => thM_fail a b c m t) hpre hfail
    have h2 := hone.out
    unfold thSum at h2
    rw [h2] at this
    cases this

/-- What ThreeSum returns. -/
def thsV (a b c : Int) : Int × Int × Bool := if tdB a b c = true then (1, 1, true) else (0, 0, false)

set_option maxRecDepth 100000 in
set_option maxHeartbeats 1000000 in
theorem i_ThreeSum (a b c : Int) (w : World) :
    Calls Try.prog 6 #[.int .i64 a, .int .i64 b, .int .i64 c] w fun e w' => e = .returned (rv (thsV a b c)) ∧ Below w.heap.size w w' := by
  cases ht : tdB a b c
  · have E : thsV a b c = (0, 0, false) := by simp [thsV, ht]
    rw [E]
    clear E
    go_enter Try.func6, Try.ntmps6
    go_wp2_with (go_at_call 15; refine (i_triadValid _ _ _ _).mono ?_; rintro e w' ⟨rfl, rfl⟩)
    refine bodyPost_ret (v := rv (0, 0, false)) (by simp [results, Try.results6, go_sem, rv]) rfl ⟨rfl, by (repeat' (first | exact Below.refl _ _ | refine bl_alloc ?_ _ | refine bl_set ?_ ?_ _ | omega | (simp; done) | (simp; omega)))⟩
  · have E : thsV a b c = (1, 1, true) := by simp [thsV, ht]
    rw [E]
    exact (callsIn_wide (n := 6)).1 (i_ThreeSum_in 6 (by omega) a b c w ht)

end Go.Proofs.Ytdhmjmnpaigagaa
