/- The contract of impl.microTable.strike: one microstate less for each pair of projections. -/
import Derived.Test.YtcmbilddlbejgaaDoorRr
import Derived.Test.YtcmbilddlbejgaaDoorIt
import Derived.Test.YtcmbilddlbejgaaDoorMt
import Derived.Test.YtcmbilddlbejgaaDoorPmt
import Derived.Test.YtcmbilddlbejgaaDoorTk
import Derived.Test.YtcmbilddlbejgaaDoorRk
namespace Go.Proofs.YtcmbilddlbejgaaDoor
open Go.RowKit Go.Shelf
set_option linter.unusedVariables false

attribute [local go_sem] Oper.semAt_some

/-- The table behind k rows. -/
def rowF (f : Int → Int → Int) (S L : Int) (k : Nat) (x y : Int) : Int := f x y - (if (decide (-L ≤ x) && decide (x < -L + k) && hasB S y) = true then 1 else 0)
theorem rowF_zero (f : Int → Int → Int) (S L : Int) (x y : Int) : rowF f S L 0 x y = f x y := by
  unfold rowF
  rw [if_neg (by simp; omega)]
  omega
theorem rowF_end (f : Int → Int → Int) (S L : Int) (k : Nat) (hk : (k : Int) = 2 * L + 1) (x y : Int) : rowF f S L k x y = f x y - (if inT S L x y = true then 1 else 0) := by
  unfold rowF inT inB
  have : decide (x < -L + k) = decide (x ≤ L) := by rw [decide_eq_decide]; omega
  rw [this]
theorem rowF_bd {f : Int → Int → Int} (hf : ∀ x y, -1000000 ≤ f x y ∧ f x y ≤ 1000000) (S L : Int) (k : Nat) (x y : Int) : -1000001 ≤ rowF f S L k x y ∧ rowF f S L k x y ≤ 1000000 := by
  have := hf x y
  unfold rowF
  split <;> omega
/-- .. and behind some projections of row k. -/
def colF (g : Int → Int → Int) (x0 : Int) (pre : List Int) (x y : Int) : Int := g x y - (if x = x0 then (pre.count y : Int) else 0)
theorem colF_nil (g : Int → Int → Int) (x0 x y : Int) : colF g x0 [] x y = g x y := by
  unfold colF; split <;> simp
theorem colF_snoc (g : Int → Int → Int) (x0 : Int) (pre : List Int) (m x y : Int) : colF g x0 (pre ++ [m]) x y = updF (colF g x0 pre) x0 m (colF g x0 pre x0 m - 1) x y := by
  unfold updF
  by_cases h : x = x0 ∧ y = m
  · obtain ⟨rfl, rfl⟩ := h
    rw [if_pos ⟨rfl, rfl⟩]
    simp only [colF, if_true, List.count_append, List.count_singleton_self]
    omega
  · rw [if_neg h]
    unfold colF
    by_cases hx : x = x0
    · subst hx
      have hy : y ≠ m := fun e => h ⟨rfl, e⟩
      simp only [if_true, List.count_append]
      rw [List.count_eq_zero_of_not_mem (show y ∉ [m] by simpa using hy)]
      omega
    · simp [hx]
theorem count_step (lo y : Int) : ∀ k : Nat, ((stepL lo k).count y : Int) = if (decide (lo ≤ y) && decide (y < lo + 2 * (k : Int)) && decide ((y - lo) % 2 = 0)) = true then 1 else 0
  | 0 => by
    rw [if_neg (by simp; omega)]
    simp [stepL]
  | k + 1 => by
    rw [stepL_succ, List.count_append]
    have h := count_step lo y k
    by_cases e : y = lo + 2 * (k : Int)
    · subst e
      rw [if_neg (by simp)] at h
      rw [if_pos (by simp; omega), List.count_singleton_self]
      omega
    · rw [List.count_eq_zero_of_not_mem (show y ∉ [lo + 2 * (k : Int)] by simpa using e)]
      rw [Int.natCast_add, h]
      by_cases h1 : lo ≤ y <;> by_cases h3 : (y - lo) % 2 = 0 <;> simp [h1, h3]
      by_cases h2 : y < lo + 2 * (k : Int)
      · rw [if_pos h2, if_pos (by omega)]
      · rw [if_neg h2, if_neg (by omega)]
theorem count_stepL {S : Int} (s0 : 0 ≤ S) (s1 : S ≤ 24) (y : Int) : ((stepL (-S) (S + 1).toNat).count y : Int) = if hasB S y = true then 1 else 0 := by
  rw [count_step]
  have e : (decide (-S ≤ y) && decide (y < -S + 2 * ((S + 1).toNat : Int)) && decide ((y - -S) % 2 = 0)) = hasB S y := by
    rw [Bool.eq_iff_iff, hasB_iff]
    simp only [Bool.and_eq_true, decide_eq_true_eq]
    omega
  rw [e]
theorem colF_row {f : Int → Int → Int} {S L : Int} (s0 : 0 ≤ S) (s1 : S ≤ 24) {k : Nat} (x y : Int) : colF (rowF f S L k) (-L + k) (stepL (-S) (S + 1).toNat) x y = rowF f S L (k + 1) x y := by
  unfold colF rowF
  rw [count_stepL s0 s1]
  cases hasB S y
  · simp
  · simp only [if_true, Bool.and_true, Bool.and_eq_true, decide_eq_true_eq]
    by_cases h3 : x = -L + k
    · rw [if_pos h3, if_neg (by omega), if_pos (by omega)]; omega
    · rw [if_neg h3]
      by_cases h2 : -L ≤ x ∧ x < -L + k
      · rw [if_pos h2, if_pos (by omega)]; omega
      · rw [if_neg h2, if_neg (by omega)]; omega
theorem grown_same {a b : World} {R B : Nat} {t : TypeId} {vs : Array Value} (h : a.grownBy b (some R)) (hx : BoxN a B t vs) (hne : B ≠ R) : BoxN b B t vs := hx.kept h (fun e => hne (by injection e))
theorem own_grown {β : Type} {w : World} {b B : Nat} (hB : w.heap.size ≤ B) : OwnFrom B (fun (_ : β) W => w.grownBy W (some b)) := fun s X Y row hs hg hr =>
  ⟨hg.os.trans hs.os, hg.tape.trans hs.tape, hg.output.trans hs.output, Nat.le_trans hs.size hg.size, fun k hk hne => (hg.block k (Nat.lt_of_lt_of_le hk hs.size) (fun e => by have := (hr k e.symm).1; omega)).trans (hs.block k hk hne)⟩
theorem own_mtab {β : Type} {b B : Nat} (hb : b < B) (n : β → Nat) (f : β → Int → Int → Int) : OwnFrom B (fun (s : β) W => MTab W b (n s) (f s)) := fun s X Y row hs hg hr =>
  hs.kept hg (fun e => by have := (hr b e.symm).1; omega)
theorem own_marks {β : Type} {B : Nat} (Ds : List Nat) (hD : ∀ D ∈ Ds, D < B) : OwnFrom B (fun (_ : β) W => ∀ D ∈ Ds, W.heap[D]? = some (.deferred (some []))) := fun s X Y row hs hg hr D hm =>
  (hg.block D (Array.getElem?_eq_some_iff.1 (hs D hm)).1 (fun e => by have := (hr D e.symm).1; have := hD D hm; omega)).trans (hs D hm)

theorem shut_mtab {b n : Nat} {f : Int → Int → Int} : ∀ (Ds : List Nat) (W : World), (∀ D ∈ Ds, D ≠ b) → MTab W b n f → MTab (shutAll W Ds) b n f
  | [], _, _, h => h
  | D :: Ds, W, hD, h => shut_mtab Ds _ (fun E hE => hD E (by simp [hE])) (h.kept (grownBy_putObj' W D (.deferred none)) (fun e => hD D (by simp) (by injection e with e; exact e.symm)))

set_option maxRecDepth 100000 in
set_option maxHeartbeats 4000000 in
theorem i_strike_in (n : Nat) (hn : 6 ≤ n) (b nn : Nat) (f : Int → Int → Int) (S L : Int) (w : World) (s0 : 0 ≤ S) (s1 : S ≤ 8) (l0 : 0 ≤ L) (l1 : L ≤ 8) (hM : MTab w b nn f) (hnn : nn ≤ 1000000) (hf : ∀ x y, -1000000 ≤ f x y ∧ f x y ≤ 1000000) :
    CallsIn Fence.wide n Tryd.prog 14 #[.map (some b), .agg #[.int .i64 S, .int .i64 L]] w fun e w' => e = .returned (.tuple #[]) ∧ MTab w' b (nn + 200) (fun x y => f x y - if inT S L x y = true then 1 else 0) ∧ w.grownBy w' (some b) := by
  have h1 : 1 ≤ n := by omega
  have hbl := hM.lt
  refine callsIn_of_wp_marks Tryd.func14 rfl trivial ?_ rfl
  simp only [Tryd.ntmps14, List.size_toArray, List.length_cons, List.length_nil, Nat.reduceAdd, Nat.reduceSub, Array.replicate_succ, Array.replicate_zero, List.push_toArray, List.append_toArray, List.nil_append, List.cons_append]
  gi_wp2
  refine loop_inv (2 * L + 2).toNat (fun k a' W => ∃ (B4 : Nat) (Ds : List Nat) (u5 u6 u7 u8 u9 u10 u11 u12 u13 u14 u15 u16 u17 u18 u19 u20 u21 u22 u23 u24 u25 u26 u27 : Value), BoxN W w.heap.size MT #[.map (some b)] ∧ BoxN W (w.heap.size + 1) 26 #[.int .i64 S, .int .i64 L] ∧ BoxN W B4 3 #[.int .i64 (-L + (k : Int))] ∧ w.heap.size + 1 < B4 ∧ MTab W b (nn + 9 * k) (rowF f S L k) ∧ w.grownBy W (some b) ∧ Ds.Nodup ∧ (∀ D ∈ Ds, W.heap[D]? = some (.deferred (some []))) ∧ (∀ D ∈ Ds, w.heap.size ≤ D) ∧ a' = { tmps := #[.map (some b), .agg #[.int .i64 S, .int .i64 L], .pointer (some ⟨w.heap.size, 0, none⟩), .pointer (some ⟨w.heap.size + 1, 0, none⟩), .pointer (some ⟨B4, 0, none⟩), u5, u6, u7, u8, u9, u10, u11, u12, u13, u14, u15, u16, u17, u18, u19, u20, u21, u22, u23, u24, u25, u26, u27], defers := marks Ds }) (by omega) ?start ?round
  case start =>
    refine ⟨w.heap.size + 1 + 1, [], _, _, _, _, _, _, _, _, _, _, _, _, _, _, _, _, _, _, _, _, _, _, _, ?_, ?_, ?_, by omega, ?_, ?_, List.nodup_nil, by simp, by simp, rfl⟩
    · exact ((BoxN.new w _ _).alloc _).alloc _
    · have := (BoxN.new (w.alloc (.cells #[.map (some b)] MT)) 26 #[.int .i64 S, .int .i64 L]).alloc (.cells #[.int .i64 (-L)] 3)
      simp only [World.size_alloc] at this
      exact this
    · have := BoxN.new ((w.alloc (.cells #[.map (some b)] MT)).alloc (.cells #[.int .i64 S, .int .i64 L] 26)) 3 #[.int .i64 (-L)]
      simp only [World.size_alloc] at this
      simpa using this
    · exact (((hM.alloc _).alloc _).alloc _).congr (fun x y => (rowF_zero f S L x y).symm)
    · exact on_alloc (on_alloc (on_alloc (on_refl _ _) _) _) _
  case round =>
    rintro k a' W hk ⟨B4, Ds, u5, u6, u7, u8, u9, u10, u11, u12, u13, u14, u15, u16, u17, u18, u19, u20, u21, u22, u23, u24, u25, u26, u27, X2, X3, X4, hB4, hMk, hG, hnd, hDs, hDl, rfl⟩
    obtain ⟨c2, f2⟩ := X2.c1
    obtain ⟨c3a, c3b, f3a, f3b⟩ := X3.c2
    obtain ⟨c4, f4⟩ := X4.c1
    have hsW := hG.size
    have l4 := X4.lt
    obtain ⟨x0, hx0⟩ : ∃ x0, -L + (k : Int) = x0 := ⟨_, rfl⟩
    rw [hx0] at X4 c4
    have HX0 := Lib.hid hx0
    have x00 : -8 ≤ x0 := by omega
    have x01 : x0 ≤ 9 := by omega
    by_cases hlast : (k : Int) = 2 * L + 1
    · have hx1 : L < x0 := by omega
      clear hx0
      gi_wp2
      show LeavesInM _ _ _ _ _ _ (marks Ds) _ _
      refine leaves_marks Ds W hnd hDs ⟨.tuple #[], results_none rfl _ _ _, rfl, ?_, shutAll_grown Ds W hG hDl⟩
      exact shut_mtab Ds W (fun D hD e => by have := hDl D hD; omega) ((hMk.mono (by omega)).congr (fun x y => rowF_end f S L k hlast x y))
    · have hx1 : x0 ≤ L := by omega
      have hk2 : k < 17 := by omega
      clear hx0
      gi_wp2_with (refine ⟨trivial, ?_⟩; (gi_at_call 20; refine (pj_in Fence.wide (n - 1) trivial rfl _ _).mono ?_; rintro e w' ⟨rfl, rfl⟩))
      have XS := BoxN.new W 52 #[.int .i64 S]
      refine wpIn_rangeFunc_ownG rfl h1 (gf := 26) (lb := #[.pointer (some ⟨W.heap.size, 0, none⟩)]) rfl trivial (enters_of Tryd.func26 (by kernel_rfl) rfl)
        (pj_stops Fence.wide (n - 1) trivial rfl (by omega) W.heap.size S ⟨s0, by omega⟩ _ (by simp) XS.c1.1) kpB_t (kpB_b (by simp)) (Below.refl _ _) (fun _ => rfl)
        (fun pre W' => (((((BoxN W' w.heap.size MT #[.map (some b)] ∧ BoxN W' (w.heap.size + 1) 26 #[.int .i64 S, .int .i64 L]) ∧ BoxN W' B4 3 #[.int .i64 x0]) ∧ BoxN W' W.heap.size 52 #[.int .i64 S]) ∧ MTab W' b (nn + 9 * k + pre.length) (colF (rowF f S L k) x0 (pre.map (·.1)))) ∧ w.grownBy W' (some b)) ∧ (∀ D ∈ Ds, W'.heap[D]? = some (.deferred (some []))))
        (fun _ _ _ => False)
        (OwnFrom.and (OwnFrom.and (OwnFrom.and (OwnFrom.and (OwnFrom.and (OwnFrom.and (Own.from (boxN_own _ _ _) _) (Own.from (boxN_own _ _ _) _)) (Own.from (boxN_own _ _ _) _)) (Own.from (boxN_own _ _ _) _)) (own_mtab (by simp; omega) _ _)) (own_grown (by simp; omega))) (own_marks Ds (fun D hD => by have := (Array.getElem?_eq_some_iff.1 (hDs D hD)).1; simp; omega)))
        (fun _ _ _ _ _ hs _ _ => hs)
        ⟨⟨⟨⟨⟨⟨X2.alloc _, X3.alloc _⟩, X4.alloc _⟩, XS⟩, (hMk.alloc _).congr (fun x y => (colF_nil _ _ _ _).symm)⟩, on_alloc hG _⟩, fun D hD => (Below.heap_alloc W _ D (Array.getElem?_eq_some_iff.1 (hDs D hD)).1).trans (hDs D hD)⟩
        (fun x => { tmps := #[.map (some b), .agg #[.int .i64 S, .int .i64 L], .pointer (some ⟨w.heap.size, 0, none⟩), .pointer (some ⟨w.heap.size + 1, 0, none⟩), .pointer (some ⟨B4, 0, none⟩), .int .i64 x.1, u6, u7, u8, .int .i64 x0, .pointer (some ⟨w.heap.size + 1, 1, none⟩), .int .i64 L, .bool true, u13, u14, .pointer (some ⟨w.heap.size + 1, 0, none⟩), .int .i64 S, .func (.func 26) #[] #[.pointer (some ⟨W.heap.size, 0, none⟩)], .int .i64 x.1, u19, u20, u21, u22, u23, u24, u25, u26, u27], defers := [] })
        ?assign ?body ?done ?stop
      case assign =>
        intro l x W' K hK
        gi_wp2
        exact hK
      case body =>
        rintro l pre x W' ⟨⟨⟨⟨⟨⟨Y2, Y3⟩, Y4⟩, YS⟩, hMy⟩, hGy⟩, hDy⟩ hlen
        have hxb := hasB_iff.1 x.2
        have hby := hMy.lt
        obtain ⟨q1, q2⟩ := rowF_bd hf S L k x0 x.1
        obtain ⟨c, hcv⟩ : ∃ c, colF (rowF f S L k) x0 (pre.map (·.1)) x0 x.1 = c := ⟨_, rfl⟩
        have hc0 : -1000020 ≤ c ∧ c ≤ 1000000 := by
          rw [← hcv]
          unfold colF
          rw [if_pos rfl]
          have := List.count_le_length (a := x.1) (l := pre.map (·.1))
          rw [List.length_map] at this
          omega
        have ix : I64 x0 := by unfold I64; omega
        have iy : I64 x.1 := by unfold I64; omega
        have iv : I64 (c - 1) := by unfold I64; omega
        have hMz : MTab W'.drew b (nn + 9 * k + pre.length) (colF (rowF f S L k) x0 (pre.map (·.1))) := hMy.drew
        obtain ⟨c', st, z1, z2, hE, M1, g1, hS, M2, g2⟩ := hMz.step (by unfold maxLen; omega) ix iy iv
        have hL0 := hMz.look ix iy
        have hL1 := M1.look ix iy
        rw [hcv] at hL0 hL1
        have T2 : BoxN W'.drew w.heap.size MT #[.map (some b)] := Y2
        have T3 : BoxN W'.drew (w.heap.size + 1) 26 #[.int .i64 S, .int .i64 L] := Y3
        have T4 : BoxN W'.drew B4 3 #[.int .i64 x0] := Y4
        have TS : BoxN W'.drew W.heap.size 52 #[.int .i64 S] := YS
        have hSz : W'.drew.cell? ⟨w.heap.size, 0, none⟩ = some (.map (some b)) ∧ W'.drew.cell? ⟨B4, 0, none⟩ = some (.int .i64 x0) := ⟨T2.c1.1, T4.c1.1⟩
        have U2 := grown_same g1 T2 (by omega)
        have U3 := grown_same g1 T3 (by omega)
        have U4 := grown_same g1 T4 (by omega)
        have US := grown_same g1 TS (by omega)
        have hSz1 : z1.cell? ⟨w.heap.size, 0, none⟩ = some (.map (some b)) ∧ z1.cell? ⟨B4, 0, none⟩ = some (.int .i64 x0) := ⟨U2.c1.1, U4.c1.1⟩
        have V2 := grown_same g2 U2 (by omega)
        have V3 := grown_same g2 U3 (by omega)
        have V4 := grown_same g2 U4 (by omega)
        have VS := grown_same g2 US (by omega)
        have hSz2 : z2.cell? ⟨w.heap.size, 0, none⟩ = some (.map (some b)) ∧ z2.cell? ⟨B4, 0, none⟩ = some (.int .i64 x0) := ⟨V2.c1.1, V4.c1.1⟩
        have wv : IntKind.i64.wrap (c - 1) = c - 1 := IntWalk.i64_in _ (by omega)
        have FIN := Lib.hid (show KeepsFrom (W.alloc (.cells #[.int .i64 S] 52)).heap.size W' z2 ∧ KpB W.heap.size W' z2 ∧ (((((BoxN z2 w.heap.size MT #[.map (some b)] ∧ BoxN z2 (w.heap.size + 1) 26 #[.int .i64 S, .int .i64 L]) ∧ BoxN z2 B4 3 #[.int .i64 x0]) ∧ BoxN z2 W.heap.size 52 #[.int .i64 S]) ∧ MTab z2 b (nn + 9 * k + (pre ++ [x]).length) (colF (rowF f S L k) x0 ((pre ++ [x]).map (·.1)))) ∧ w.grownBy z2 (some b)) ∧ (∀ D ∈ Ds, z2.heap[D]? = some (.deferred (some []))) from
          ⟨((KeepsOthers.drew W').from _).trans ((KeepsFrom.of_grownBy g1 (fun j e => by cases e; simp; omega)).trans (KeepsFrom.of_grownBy g2 (fun j e => by cases e; simp; omega))), kpB_boxes YS VS,
           ⟨⟨⟨⟨⟨V2, V3⟩, V4⟩, VS⟩, by rw [List.length_append, List.length_singleton, ← Nat.add_assoc]; exact M2.congr (fun p q => by rw [List.map_append, List.map_singleton, colF_snoc, hcv])⟩, on_trans (on_trans (on_drew hGy) g1) g2⟩,
           fun D hD => (g2.block D (Nat.lt_of_lt_of_le (Array.getElem?_eq_some_iff.1 (hDy D hD)).1 g1.size) (fun e => by injection e with e; have := hDl D hD; omega)).trans ((g1.block D (Array.getElem?_eq_some_iff.1 (hDy D hD)).1 (fun e => by injection e with e; have := hDl D hD; omega)).trans (hDy D hD))⟩)
        clear hMz M1 M2 g1 g2 T2 T3 T4 TS U2 U3 U4 US V2 V3 V4 VS Y2 Y3 Y4 YS hMy hGy hDy hcv ix iy iv X2 X3 X4 c2 f2 c3a c3b f3a f3b c4 f4 hMk hG hDs XS
        refine wpIn_block ?_
        refine region_round (S := (fun w' => w'.cell? ⟨w.heap.size, 0, none⟩ = some (.map (some b)) ∧ w'.cell? ⟨B4, 0, none⟩ = some (.int .i64 x0))) (by kernel_rfl) (by kernel_rfl) hSz (fun hHeld => ?_)
        refine take_yes (i := 0) (v := ?vm1) (d := some 19) rfl rfl (by kernel_rfl) (by kernel_rfl) (by kernel_rfl) (fun _ _ _ h => h) (by rfl) ?ym1 (by assumption) ?rm1
        case ym1 =>
          intro w hSw
          (try dsimp only at hSw)
          go_simp
          try with_reducible rfl
        (try simp only [Act.put, List.setIfInBounds_toArray, List.set_cons_zero, List.set_cons_succ])
        refine take_yes (i := 1) (v := ?vm2) (d := some 20) rfl rfl (by kernel_rfl) (by kernel_rfl) (by kernel_rfl) (fun _ _ _ h => h) (by rfl) ?ym2 (by assumption) ?rm2
        case ym2 =>
          intro w hSw
          (try dsimp only at hSw)
          go_simp
          try with_reducible rfl
        (try simp only [Act.put, List.setIfInBounds_toArray, List.set_cons_zero, List.set_cons_succ])
        refine take_yes (i := 2) (v := ?vm3) (d := some 21) rfl rfl (by kernel_rfl) (by kernel_rfl) (by kernel_rfl) (fun _ _ _ h => h) (by rfl) ?ym3 (by assumption) ?rm3
        case ym3 =>
          intro w hSw
          (try dsimp only at hSw)
          go_simp
          try with_reducible rfl
        (try simp only [Act.put, List.setIfInBounds_toArray, List.set_cons_zero, List.set_cons_succ])
        refine take_yes (i := 3) (v := ?vm4) (d := some 22) rfl rfl (by kernel_rfl) (by kernel_rfl) (by kernel_rfl) (fun _ _ _ h => h) (by rfl) ?ym4 (by assumption) ?rm4
        case ym4 =>
          intro w hSw
          (try dsimp only at hSw)
          go_simp
          try with_reducible rfl
        (try simp only [Act.put, List.setIfInBounds_toArray, List.set_cons_zero, List.set_cons_succ])
        refine wpAnyH_ready (rs := [4, 6]) (by kernel_rfl) (by simp) ?_
        refine AllReadyH.cons (o := _) rfl (fun K hK => ?_) ?_
        · go_simp
          refine hK.out _ _ ?_ (fun hHeld => ?_)
          · (try dsimp only)
            first | exact hSz | exact hSz1 | exact hSz2
          clear hK K
          (try simp only [Act.put, List.setIfInBounds_toArray, List.set_cons_zero, List.set_cons_succ])
          refine take_yes (i := 5) (v := ?vm5) (d := some 24) rfl rfl (by kernel_rfl) (by kernel_rfl) (by kernel_rfl) (fun _ _ _ h => h) (by rfl) ?ym5 (by assumption) ?rm5
          case ym5 =>
            intro w hSw
            (try dsimp only at hSw)
            go_simp
            try with_reducible rfl
          (try simp only [Act.put, List.setIfInBounds_toArray, List.set_cons_zero, List.set_cons_succ])
          refine wpAnyH_ready (rs := [6]) (by kernel_rfl) (by simp) ?_
          refine AllReadyH.cons (o := _) rfl (fun K hK => ?_) AllReadyH.nil
          go_simp
          refine hK.out _ _ ?_ (fun hHeld => ?_)
          · (try dsimp only)
            first | exact hSz | exact hSz1 | exact hSz2
          clear hK K
          (try simp only [Act.put, List.setIfInBounds_toArray, List.set_cons_zero, List.set_cons_succ])
          refine take_yes (i := 7) (v := ?vm6) (d := some 26) rfl rfl (by kernel_rfl) (by kernel_rfl) (by kernel_rfl) (fun _ _ _ h => h) (by rfl) ?ym6 (by assumption) ?rm6
          case ym6 =>
            intro w hSw
            (try dsimp only at hSw)
            go_simp
            try with_reducible rfl
          (try simp only [Act.put, List.setIfInBounds_toArray, List.set_cons_zero, List.set_cons_succ])
          refine wpAnyH_ready (rs := [8]) (by kernel_rfl) (by simp) ?_
          refine AllReadyH.cons (o := _) rfl (fun K hK => ?_) AllReadyH.nil
          go_simp
          refine hK.out _ _ ?_ (fun hHeld => ?_)
          · (try dsimp only)
            first | exact hSz | exact hSz1 | exact hSz2
          clear hK K
          (try simp only [Act.put, List.setIfInBounds_toArray, List.set_cons_zero, List.set_cons_succ])
          refine wpAnyH_done (by kernel_rfl) ?_ _
          exact FIN.out
        refine AllReadyH.cons (o := _) rfl (fun K hK => ?_) AllReadyH.nil
        go_simp
        refine hK.out _ _ ?_ (fun hHeld => ?_)
        · (try dsimp only)
          first | exact hSz | exact hSz1 | exact hSz2
        clear hK K
        (try simp only [Act.put, List.setIfInBounds_toArray, List.set_cons_zero, List.set_cons_succ])
        refine take_yes (i := 7) (v := ?vm7) (d := some 26) rfl rfl (by kernel_rfl) (by kernel_rfl) (by kernel_rfl) (fun _ _ _ h => h) (by rfl) ?ym7 (by assumption) ?rm7
        case ym7 =>
          intro w hSw
          (try dsimp only at hSw)
          go_simp
          try with_reducible rfl
        (try simp only [Act.put, List.setIfInBounds_toArray, List.set_cons_zero, List.set_cons_succ])
        refine wpAnyH_ready (rs := [4]) (by kernel_rfl) (by simp) ?_
        refine AllReadyH.cons (o := _) rfl (fun K hK => ?_) AllReadyH.nil
        go_simp
        refine hK.out _ _ ?_ (fun hHeld => ?_)
        · (try dsimp only)
          first | exact hSz | exact hSz1 | exact hSz2
        clear hK K
        (try simp only [Act.put, List.setIfInBounds_toArray, List.set_cons_zero, List.set_cons_succ])
        refine take_yes (i := 5) (v := ?vm8) (d := some 24) rfl rfl (by kernel_rfl) (by kernel_rfl) (by kernel_rfl) (fun _ _ _ h => h) (by rfl) ?ym8 (by assumption) ?rm8
        case ym8 =>
          intro w hSw
          (try dsimp only at hSw)
          go_simp
          try with_reducible rfl
        (try simp only [Act.put, List.setIfInBounds_toArray, List.set_cons_zero, List.set_cons_succ])
        refine wpAnyH_ready (rs := [8]) (by kernel_rfl) (by simp) ?_
        refine AllReadyH.cons (o := _) rfl (fun K hK => ?_) AllReadyH.nil
        go_simp
        refine hK.out _ _ ?_ (fun hHeld => ?_)
        · (try dsimp only)
          first | exact hSz | exact hSz1 | exact hSz2
        clear hK K
        (try simp only [Act.put, List.setIfInBounds_toArray, List.set_cons_zero, List.set_cons_succ])
        refine wpAnyH_done (by kernel_rfl) ?_ _
        exact FIN.out
      case done =>
        rintro D ys W' hD hys ⟨⟨⟨⟨⟨⟨Y2, Y3⟩, Y4⟩, YS⟩, hMy⟩, hGy⟩, hDy⟩ hK
        obtain ⟨e4, k4⟩ := Y4.c1
        have hyl := congrArg List.length hys
        rw [List.length_map, stepL_length] at hyl
        have hyl2 : ys.length ≤ 9 := by omega
        clear hyl
        gi_wp2
        refine ⟨by omega, W'.heap.size, D :: Ds, _, _, _, _, _, _, _, _, _, _, _, _, _, _, _, _, _, _, _, _, _, _, _, ?_, ?_, ?_, ?_, ?_, ?_, ?_, ?_, ?_, rfl⟩
        · exact Y2.alloc _
        · exact Y3.alloc _
        · have := BoxN.new W' 3 #[.int .i64 (x0 + 1)]
          rw [show -L + ((k + 1 : Nat) : Int) = x0 + 1 by have := HX0.out; omega]
          exact this
        · have := Y3.lt; omega
        · refine ((hMy.alloc _).mono (by omega)).congr (fun x y => ?_)
          rw [hys, ← HX0.out]
          exact colF_row s0 (by omega) x y
        · exact on_alloc hGy _
        · exact List.nodup_cons.2 ⟨fun hm => by have := (Array.getElem?_eq_some_iff.1 (hDs D hm)).1; simp at hD; omega, hnd⟩
        · intro E hE
          rcases List.mem_cons.1 hE with rfl | hE
          · exact (Below.heap_alloc W' _ E (Array.getElem?_eq_some_iff.1 hK).1).trans hK
          · exact (Below.heap_alloc W' _ E (Array.getElem?_eq_some_iff.1 (hDy E hE)).1).trans (hDy E hE)
        · intro E hE
          rcases List.mem_cons.1 hE with rfl | hE
          · simp at hD; omega
          · exact hDl E hE
      case stop =>
        rintro D c pre W' _ _ h _
        exact h.elim

theorem i_strike (b nn : Nat) (f : Int → Int → Int) (S L : Int) (w : World) (s0 : 0 ≤ S) (s1 : S ≤ 8) (l0 : 0 ≤ L) (l1 : L ≤ 8) (hM : MTab w b nn f) (hnn : nn ≤ 1000000) (hf : ∀ x y, -1000000 ≤ f x y ∧ f x y ≤ 1000000) :
    Calls Tryd.prog 14 #[.map (some b), .agg #[.int .i64 S, .int .i64 L]] w fun e w' => e = .returned (.tuple #[]) ∧ MTab w' b (nn + 200) (fun x y => f x y - if inT S L x y = true then 1 else 0) ∧ w.grownBy w' (some b) :=
  (callsIn_wide (n := 6)).1 (i_strike_in 6 (by omega) b nn f S L w s0 s1 l0 l1 hM hnn hf)

end Go.Proofs.YtcmbilddlbejgaaDoor
