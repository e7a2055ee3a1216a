/- The draw of configurations: some shells. -/
import Derived.Test.YtpdhbilghmejiaaS8
namespace Go.Proofs.Ytpdhbilghmejiaa
open Go.RowKit
set_option linter.unusedVariables false

def ordB : Array Value := #[.int .i64 10, .int .i64 20, .int .i64 21, .int .i64 30, .int .i64 31, .int .i64 32, .int .i64 40, .int .i64 41, .int .i64 42, .int .i64 43, .int .i64 50]
theorem ordB_at (k : Nat) (h : k < 11) : ∃ x : Int, ordB[k]? = some (.int .i64 x) ∧ 0 ≤ x ∧ x ≤ 100 := by
  rcases (by omega : k = 0 ∨ k = 1 ∨ k = 2 ∨ k = 3 ∨ k = 4 ∨ k = 5 ∨ k = 6 ∨ k = 7 ∨ k = 8 ∨ k = 9 ∨ k = 10) with h | h | h | h | h | h | h | h | h | h | h <;> subst h <;> exact ⟨_, rfl, by omega, by omega⟩
theorem SRow.only {α : Type} {ty size : Nat} {f : α → List Value} {w w' : World} {b R : Nat} {v : Value} {xs : List α} (h : SRow ty size f w b v xs) (hg : w.grownBy w' (some R)) (hR : R < b) : SRow ty size f w' b v xs := by
  unfold SRow World.ownsRow at *
  refine ⟨h.1, h.2.imp id ?_⟩
  rintro ⟨g, cap, cur, h1, h2, h3, h4⟩
  refine ⟨g, cap, cur, h1, h2, ?_, h4⟩
  have hl : g < w.heap.size := by
    rcases Nat.lt_or_ge g w.heap.size with h | h
    · exact h
    · rw [Array.getElem?_eq_none h] at h3; cases h3
  rw [hg.block g hl (by intro e; injection e with e; omega)]
  exact h3
theorem rd_grown {w w' : World} {R p : Nat} {row : Option Nat} (h : Rd w R p) (hg : w.grownBy w' row) (hrow : ∀ k, row = some k → R < k) : Rd w' R p := by
  have hlt := h.lt
  obtain ⟨a, len, cap, hR, h1, h2⟩ := h
  refine ⟨a, len, cap, by rw [hg.block R hlt (fun e => by have := hrow _ e.symm; omega)]; exact hR, h1, fun hp => ?_⟩
  obtain ⟨b, off, e1, e2, e4⟩ := h2 hp
  refine ⟨b, off, e1, e2, fun i hi => ?_⟩
  obtain ⟨z, hz, hz2⟩ := e4 i hi
  refine ⟨z, ?_, hz2⟩
  rw [← hz]
  exact World.cell?_of_block (w := w) (hg.block b (Nat.lt_trans e2 hlt) (fun e => by have := hrow _ e.symm; omega))
theorem on_app {a w w1 : World} {R : Nat} {o : Obj} {row : Option Nat} (h : a.grownBy w (some R)) (hg : (w.alloc o).grownBy w1 row) (hrow : ∀ k, row = some k → a.heap.size ≤ k) : a.grownBy w1 (some R) := by
  refine ⟨hg.os.trans h.os, hg.tape.trans h.tape, hg.output.trans h.output, ?_, fun k hk hne => ?_⟩
  · have h1 := hg.size
    have h2 := h.size
    simp at h1
    omega
  · have h2 := h.size
    rw [hg.block k (by simp; omega) (fun e => by have := hrow _ e.symm; omega)]
    show (w.alloc o).heap[k]? = _
    rw [Below.heap_alloc w o k (by omega)]
    exact h.block k hk hne
theorem row_ge {w : World} {base e size n : Nat} {v : Value} {xs : List Value} (h : w.ownsRow base e size v n xs) : ∀ k, v.ownBlock = some k → base ≤ k := fun k hk => own_blk h k hk
theorem own_ne {a : World} {u v : Value} {g : Nat} (hat : u.ownBlock = v.ownBlock ∨ u.ownBlock = some (a.heap.size + 1)) (hv : v.ownBlock ≠ some g) (hg : g < a.heap.size) : u.ownBlock ≠ some g := by
  rcases hat with h | h
  · rw [h]; exact hv
  · rw [h]; intro e; injection e with e; omega
/-- The first shell's count is written. -/
theorem shells_set0 {w : World} {b g cap : Nat} {N L C : Int} {t : List Sh} (h : Shells w b (.slice (some ⟨g, 0, none⟩) (t.length + 1) cap) ((N, L, C) :: t)) (D : Int) :
    Shells (w.setCell ⟨g, 2, none⟩ (.int .i64 D)) b (.slice (some ⟨g, 0, none⟩) (t.length + 1) cap) ((N, L, D) :: t) := by
  unfold Shells SRow World.ownsRow at *
  refine ⟨by rw [flat_len scs_len], .inr ?_⟩
  rcases h.2 with ⟨h1, _⟩ | ⟨g2, cap2, cur, h1, h2, h3, h4, h5, h6, h7⟩
  · cases h1
  · simp only [Value.slice.injEq, Option.some.injEq, Addr.mk.injEq, and_true] at h1
    obtain ⟨rfl, _, rfl⟩ := h1
    refine ⟨g, cap, cur.setIfInBounds 2 (.int .i64 D), rfl, h2, ?_, h4, h5, by simpa using h6, ?_⟩
    · simp [World.setCell, Array.getElem?_modify, h3]
    · have e : (t.length + 1) * 3 = t.length * 3 + 3 := by omega
      simp only [List.length_cons] at h7 ⊢
      rw [e] at h7 ⊢
      rw [Array.toList_setIfInBounds, List.take_set, h7]
      simp [scs]
theorem own_slice {w : World} {b n : Nat} {v : Value} {xs : List Sh} (h : Shells w b v xs) (hn : xs.length = n + 1) : ∃ g cap, v = .slice (some ⟨g, 0, none⟩) (n + 1) cap ∧ b ≤ g ∧ g < w.heap.size ∧ (∀ i, i < 3 → ∃ u, w.cell? ⟨g, i, none⟩ = some u) ∧ ∀ i, w.frozen? ⟨g, i, none⟩ = false := by
  unfold Shells SRow World.ownsRow at h
  rcases h.2 with ⟨_, h1⟩ | ⟨g, cap, cur, h1, h2, h3, h4, h5, h6, h7⟩
  · omega
  · have hl : g < w.heap.size := by
      rcases Nat.lt_or_ge g w.heap.size with h | h
      · exact h
      · rw [Array.getElem?_eq_none h] at h3; cases h3
    refine ⟨g, cap, by rw [h1, hn], h2, hl, fun i hi => ?_, fun i => by simp [World.frozen?, h3]⟩
    have : i < cur.size := by omega
    exact ⟨cur[i], by simp [World.cell?, h3, this]⟩

/-- Some shells are drawn with the reader. -/
def RCfg (w : World) (R p : Nat) (e : Ending) (w' : World) : Prop := ∃ v' q, e = .returned v' ∧ SomeSh w' w.heap.size v' 20 ∧ q ≤ p + 100 ∧ Rd w' R q ∧ w.grownBy w' (some R)
/-- Some shells are drawn. -/
def RDrawC (w : World) (e : Ending) (w' : World) : Prop := ∃ v', e = .returned v' ∧ SomeSh w' w.heap.size v' 20 ∧ Below w.heap.size w w'

set_option maxRecDepth 100000 in
set_option maxHeartbeats 4000000 in
theorem s_l92Config (R p : Nat) (w : World) (hr : Rd w R p) (hp : p ≤ 800000) :
    Calls Try.prog 46 #[.pointer (some ⟨R, 0, none⟩)] w (RCfg w R p) := by
  obtain ⟨i0, hi, hz0, hz1, hz2⟩ := info_parts infoShell
  have HI := Lib.hid (And.intro hi (And.intro hz0 (And.intro hz1 hz2)))
  clear hi hz0 hz1 hz2
  have HR := Lib.hid hr
  have hR := hr.lt
  clear hr
  go_enter Try.func46, Try.ntmps46
  go_wp2_with fail
  go_loopw [3, 5, 6, 7] (fun v i _ _ wr => ∃ (k q : Nat) (ys : List Sh), k ≤ 11 ∧ i = .int .i64 k ∧ ys.length ≤ k ∧ q ≤ p + 3 * k ∧ Rd wr R q ∧ Shells wr w.heap.size v ys ∧ Blk wr (w.heap.size + 1) ordB ∧ v.ownBlock ≠ some (w.heap.size + 1) ∧ w.grownBy wr (some R)) (fun _ i _ _ _ => 11 - (intOf i).toNat)
  case atStart => exact ⟨0, p, [], by omega, rfl, by simp, by omega, rd_alloc (rd_alloc HR.out _) _, SRow.alloc (SRow.empty _) _, by first | exact blk_new (by simp) | exact (blk_new (by simp) : Blk _ _ _), by simp [Value.ownBlock], on_alloc (on_alloc (on_refl _ _) _) _⟩
  case round =>
    obtain ⟨k, q, ys, hk, rfl, hy, hq, hrd, hO, hK, hV, hG⟩ := hrel
    have HRD := Lib.hid hrd
    have HO := Lib.hid hO
    have HK := Lib.hid hK
    have HV := Lib.hid hV
    have HG := Lib.hid hG
    have hs := hG.size
    have kl := hK.lt
    clear hrd hO hK hV hG
    by_cases hlt : k < 11
    · obtain ⟨x, hx, x0, x1⟩ := ordB_at k hlt
      have HX := Lib.hid hx
      clear hx
      have k8 : (0 : Int) ≤ (k : Int) := by omega
      have k9 : (k : Int) < 11 := by omega
      go_wp2_with fail
      refine (s_pick _ _ _ _ HRD.out (by omega) (by omega)).mono ?_
      rintro e w11 ⟨t, rfl, t0, t1, tr, hg11⟩
      have t2 := t1 (by omega)
      clear t1
      have w11R := Lib.hid tr
      clear tr
      have w11z := hg11.size
      try simp at w11z
      have w11G := Lib.hid hg11
      clear hg11
      have hO0 : Shells w11 w.heap.size u3 ys := SRow.only HO.out w11G.out hR
      have hK0 : Blk w11 (w.heap.size + 1) ordB := blk_only w11G.out (by omega) HK.out
      have hG0 : w.grownBy w11 (some R) := on_trans HG.out w11G.out
      have HO0 := Lib.hid hO0
      have HK0 := Lib.hid hK0
      have HG0 := Lib.hid hG0
      clear hO0 hK0 hG0
      by_cases ht : t = 0
      · subst ht
        have c0 : w11.cell? ⟨(w.heap.size + 1), k, none⟩ = some (.int .i64 x) := by rw [blk_at2 HK0.out]; exact HX.out
        have m0 : 0 ≤ x % 10 := Int.emod_nonneg _ (by omega)
        have m1 : x % 10 < 10 := Int.emod_lt_of_pos _ (by omega)
        go_wp2_with fail
        refine (s_pick _ _ _ _ w11R.out (by omega) (by omega)).mono ?_
        rintro e w12 ⟨u, rfl, u0, u1, ur, hg12⟩
        have u2 := u1 (by omega)
        clear u1
        have w12R := Lib.hid ur
        clear ur
        have w12z := hg12.size
        try simp at w12z
        have w12G := Lib.hid hg12
        clear hg12
        have hO1 : Shells w12 w.heap.size u3 ys := SRow.only HO0.out w12G.out hR
        have hK1 : Blk w12 (w.heap.size + 1) ordB := blk_only w12G.out (by omega) HK0.out
        have hG1 : w.grownBy w12 (some R) := on_trans HG0.out w12G.out
        have HO1 := Lib.hid hO1
        have HK1 := Lib.hid hK1
        have HG1 := Lib.hid hG1
        clear hO1 hK1 hG1
        clear c0
        have c0 : w12.cell? ⟨(w.heap.size + 1), k, none⟩ = some (.int .i64 x) := by rw [blk_at2 HK1.out]; exact HX.out
        by_cases hu : u = 0
        · subst hu
          skip
          go_wp2_with fail
          refine (s_pick _ _ _ _ w12R.out (by omega) (by omega)).mono ?_
          rintro e w14 ⟨y, rfl, y0, y1, yr, hg14⟩
          have w14R := Lib.hid yr
          clear yr
          have w14z := hg14.size
          try simp at w14z
          have w14G := Lib.hid hg14
          clear hg14
          have y2 := y1 (by omega)
          clear y1
          have hO2 : Shells w14 w.heap.size u3 ys := SRow.only HO1.out w14G.out hR
          have hK2 : Blk w14 (w.heap.size + 1) ordB := blk_only w14G.out (by omega) HK1.out
          have hG2 : w.grownBy w14 (some R) := on_trans HG1.out w14G.out
          have HO2 := Lib.hid hO2
          have HK2 := Lib.hid hK2
          have HG2 := Lib.hid hG2
          clear hO2 hK2 hG2
          clear c0
          have c0 : w14.cell? ⟨(w.heap.size + 1), k, none⟩ = some (.int .i64 x) := by rw [blk_at2 HK2.out]; exact HX.out
          have hl : ys.length ≤ 100 := by omega
          have hO := HO2.out
          unfold Shells SRow at hO
          obtain ⟨hi, hz0, hz1, hz2⟩ := HI.out
          have kl2 : w.heap.size + 1 < w14.heap.size := (HK2.out).lt
          go_wp2_with (at_builtin; refine wpList_append_own_at _ rfl _ _ 44 rfl w.heap.size 51 i0 (.agg #[.int .i64 0, .int .i64 0, .int .i64 0]) 3 24 Try.underlying44 hi hz0 hz1 hz2 rfl (by decide) _ _ _ rfl (hO.alloc _) ⟨w14.heap.size, 0, none⟩ 1 1 (scs (x / 10, x % 10, 1 + y)) rfl rfl ?c1a ?c2a ?c3a ?c4a ?c5a ?_)
          case c1a => first | exact cells_new3 _ _ _ _ _ | exact fun _ _ h => h
          case c2a => intro u hu; simp [scs] at hu; rcases hu with rfl | rfl | rfl <;> rfl
          case c3a => unfold maxLen; first | omega | (simp only [List.length_cons]; omega)
          case c4a => first | omega | (simp only [List.length_cons]; omega)
          case c5a => first | omega | (simp; omega)
          intro v2 x2 hown' hgrow _ hat
          have A1 : Shells x2 w.heap.size v2 (ys ++ [(x / 10, x % 10, 1 + y)]) := SRow.app hown'
          have A2 : w.grownBy x2 (some R) := on_app HG2.out hgrow (row_ge hO)
          have A3 : Rd x2 R _ := rd_grown (rd_alloc w14R.out _) hgrow (fun k hk => by have := row_ge hO k hk; omega)
          have A4 : Blk x2 (w.heap.size + 1) ordB := app_blk HK2.out hgrow HV.out
          have A5 : v2.ownBlock ≠ some (w.heap.size + 1) := own_ne hat HV.out kl2
          have H1 := Lib.hid A1
          have H2 := Lib.hid A2
          have H3 := Lib.hid A3
          have H4 := Lib.hid A4
          have H5 := Lib.hid A5
          clear A1 A2 A3 A4 A5 hown' hgrow hO hat
          go_wp2_with fail
          go_roundw
          case rel => exact ⟨k + 1, _, _, by omega, by go_num, by rw [List.length_append]; simp; omega, by omega, H3.out, H1.out, H4.out, H5.out, H2.out⟩
          case measure => simp [intOf]; omega
        have hu1 : (u == 0) = false := by simp [hu]
        clear hu
        have hl : ys.length ≤ 100 := by omega
        have hO := HO1.out
        unfold Shells SRow at hO
        obtain ⟨hi, hz0, hz1, hz2⟩ := HI.out
        have kl2 : w.heap.size + 1 < w12.heap.size := (HK1.out).lt
        go_wp2_with (at_builtin; refine wpList_append_own_at _ rfl _ _ 44 rfl w.heap.size 51 i0 (.agg #[.int .i64 0, .int .i64 0, .int .i64 0]) 3 24 Try.underlying44 hi hz0 hz1 hz2 rfl (by decide) _ _ _ rfl (hO.alloc _) ⟨w12.heap.size, 0, none⟩ 1 1 (scs (x / 10, x % 10, 4 * (x % 10) + 2)) rfl rfl ?c1b ?c2b ?c3b ?c4b ?c5b ?_)
        case c1b => first | exact cells_new3 _ _ _ _ _ | exact fun _ _ h => h
        case c2b => intro u hu; simp [scs] at hu; rcases hu with rfl | rfl | rfl <;> rfl
        case c3b => unfold maxLen; first | omega | (simp only [List.length_cons]; omega)
        case c4b => first | omega | (simp only [List.length_cons]; omega)
        case c5b => first | omega | (simp; omega)
        intro v2 x2 hown' hgrow _ hat
        have A1 : Shells x2 w.heap.size v2 (ys ++ [(x / 10, x % 10, 4 * (x % 10) + 2)]) := SRow.app hown'
        have A2 : w.grownBy x2 (some R) := on_app HG1.out hgrow (row_ge hO)
        have A3 : Rd x2 R _ := rd_grown (rd_alloc w12R.out _) hgrow (fun k hk => by have := row_ge hO k hk; omega)
        have A4 : Blk x2 (w.heap.size + 1) ordB := app_blk HK1.out hgrow HV.out
        have A5 : v2.ownBlock ≠ some (w.heap.size + 1) := own_ne hat HV.out kl2
        have H1 := Lib.hid A1
        have H2 := Lib.hid A2
        have H3 := Lib.hid A3
        have H4 := Lib.hid A4
        have H5 := Lib.hid A5
        clear A1 A2 A3 A4 A5 hown' hgrow hO hat
        go_wp2_with fail
        go_roundw
        case rel => exact ⟨k + 1, _, _, by omega, by go_num, by rw [List.length_append]; simp; omega, by omega, H3.out, H1.out, H4.out, H5.out, H2.out⟩
        case measure => simp [intOf]; omega
      have ht1 : (t == 0) = false := by simp [ht]
      clear ht
      go_wp2_with fail
      go_roundw
      case rel => exact ⟨k + 1, _, ys, by omega, by go_num, by omega, by omega, w11R.out, HO0.out, HK0.out, HV.out, HG0.out⟩
      case measure => simp [intOf]; omega
    · obtain rfl : k = 11 := by omega
      have hl : ys.length ≤ 100 := by omega
      by_cases hz : ys.length = 0
      · obtain rfl : ys = [] := List.length_eq_zero_iff.1 hz
        have hvl := HO.out
        obtain ⟨ao, co, rfl, _, _⟩ := SRow.opened scs_len hvl
        clear hvl
        simp only [List.length_nil]
        go_wp2_with fail
        refine (s_pick _ _ _ _ HRD.out (by omega) (by omega)).mono ?_
        rintro e wp ⟨y, rfl, y0, y1, yr, hgp⟩
        have y2 := y1 (by omega)
        clear y1 hz
        have hO : Shells wp w.heap.size (.slice ao 0 co) [] := SRow.only HO.out hgp hR
        have HGp : Hid (w.grownBy wp (some R)) := Lib.hid (on_trans HG.out hgp)
        have HRp := Lib.hid yr
        have hsp := hgp.size
        clear yr hgp
        unfold Shells SRow at hO
        obtain ⟨hi, hz0, hz1, hz2⟩ := HI.out
        go_wp2_with (at_builtin; refine wpList_append_own_at _ rfl _ _ 44 rfl w.heap.size 51 i0 (.agg #[.int .i64 0, .int .i64 0, .int .i64 0]) 3 24 Try.underlying44 hi hz0 hz1 hz2 rfl (by decide) _ _ _ rfl (hO.alloc _) ⟨wp.heap.size, 0, none⟩ 1 1 (scs (2, 1, 1 + y)) rfl rfl ?c1n ?c2n ?c3n ?c4n ?c5n ?_)
        case c1n => first | exact cells_new3 _ _ _ _ _ | exact fun _ _ h => h
        case c2n => intro u hu; simp [scs] at hu; rcases hu with rfl | rfl | rfl <;> rfl
        case c3n => unfold maxLen; first | omega | (simp only [List.length_cons]; omega)
        case c4n => first | omega | (simp only [List.length_cons]; omega)
        case c5n => first | omega | (simp; omega)
        intro v2 x2 hown' hgrow _ hat
        have A1 : Shells x2 w.heap.size v2 ([] ++ [(2, 1, 1 + y)]) := SRow.app hown'
        have A2 : w.grownBy x2 (some R) := on_app HGp.out hgrow (row_ge hO)
        have A3 : Rd x2 R _ := rd_grown (rd_alloc HRp.out _) hgrow (fun k hk => by have := row_ge hO k hk; omega)
        have H1 := Lib.hid A1
        have H2 := Lib.hid A2
        have H3 := Lib.hid A3
        clear A1 A2 A3 hown' hgrow hO hat
        obtain ⟨zs, hzs⟩ : ∃ zs : List Sh, [] ++ [(2, 1, 1 + y)] = zs := ⟨_, rfl⟩
        have hlen0 : zs.length = 0 + 1 := by rw [← hzs]; rfl
        rw [hzs] at H1
        clear hzs
        obtain ⟨n, hlen⟩ : ∃ n, zs.length = n + 1 := ⟨0, hlen0⟩
        have hl3 : zs.length ≤ 1 := by omega
        clear hlen0 hl hy
        obtain ⟨g0, cap0, rfl, _⟩ := own_slice H1.out hlen
        go_wp2_with fail
        refine (s_pick _ _ _ _ H3.out (by omega) (by omega)).mono ?_
        rintro e w42 ⟨t, rfl, t0, t1, tr, hg42⟩
        have t2 := t1 (by omega)
        clear t1
        have hOt : Shells w42 w.heap.size (.slice (some ⟨g0, 0, none⟩) (n + 1) cap0) zs := SRow.only H1.out hg42 hR
        have HGt : Hid (w.grownBy w42 (some R)) := Lib.hid (on_trans H2.out hg42)
        have HRt := Lib.hid tr
        have HOt := Lib.hid hOt
        clear tr hg42
        obtain ⟨g, cap, hv, hgb, hgl, hcell, hfr⟩ := own_slice hOt hlen
        obtain ⟨⟨N, L, C⟩, tl, hxs⟩ : ∃ p tl, zs = p :: tl := by
          cases hx : zs with
          | nil => rw [hx] at hlen; simp at hlen
          | cons p tl => exact ⟨p, tl, rfl⟩
        have hxl : zs.length ≤ 13 := by omega
        rw [hxs] at hOt hlen hxl
        simp only [List.length_cons] at hxl
        simp only [List.length_cons, Nat.add_right_cancel_iff] at hlen
        subst hlen
        simp only [Value.slice.injEq, Option.some.injEq, Addr.mk.injEq, and_true, true_and] at hv
        obtain ⟨rfl, rfl⟩ := hv
        obtain ⟨⟨v0, e0⟩, ⟨v1, e1⟩, v2, e2⟩ := And.intro (hcell 0 (by omega)) (And.intro (hcell 1 (by omega)) (hcell 2 (by omega)))
        have f2 := hfr 2
        obtain ⟨_, _, hse, _, hsc⟩ := SRow.opened scs_len hOt
        simp only [Value.slice.injEq] at hse
        obtain ⟨rfl, hse1, rfl⟩ := hse
        clear hse1
        rcases hsc with hsc | ⟨g2, hg2, _, _, hsc⟩
        · cases hsc
        simp only [Option.some.injEq, Addr.mk.injEq, and_true] at hg2
        subst hg2
        have c0 := hsc 0 0 _ _ rfl rfl
        have c1 := hsc 0 1 _ _ rfl rfl
        have c2 := hsc 0 2 _ _ rfl rfl
        simp only [Nat.zero_mul, Nat.zero_add] at c0 c1 c2
        have HOu := Lib.hid hOt
        clear hcell hfr hsc e0 e1 e2 v0 v1 v2 HOt hxs
        have z1 : (0 : Int) < ((tl.length + 1 : Nat) : Int) := by omega
        by_cases h0 : t = 0
        · subst h0
          clear hOt
          go_wp2_with fail
          go_ret
          exact ⟨_, _, rfl, ⟨_, shells_set0 HOu.out 0, by simp; omega⟩, by omega, rd_set HRt.out (show R < _ by simp; omega), on_set HGt.out (by first | exact hgb | (simp; omega)) _⟩
        have h0b : (t == 0) = false := by simp [h0]
        clear h0
        by_cases h1 : t = 1
        · subst h1
          unfold Shells SRow at hOt
          have hO := hOt
          clear hOt
          obtain ⟨hi, hz0, hz1, hz2⟩ := HI.out
          go_wp2_with (at_builtin; refine wpList_append_own_at _ rfl _ _ 44 rfl w.heap.size 51 i0 (.agg #[.int .i64 0, .int .i64 0, .int .i64 0]) 3 24 Try.underlying44 hi hz0 hz1 hz2 rfl (by decide) _ _ _ rfl (hO.alloc _) ⟨w42.heap.size, 0, none⟩ 1 1 (scs (N, L, C)) rfl rfl ?c1te ?c2te ?c3te ?c4te ?c5te ?_)
          case c1te => first | exact cells_new3 _ _ _ _ _ | exact fun _ _ h => h
          case c2te => intro u hu; simp [scs] at hu; rcases hu with rfl | rfl | rfl <;> rfl
          case c3te => unfold maxLen; first | omega | (simp only [List.length_cons]; omega)
          case c4te => first | omega | (simp only [List.length_cons]; omega)
          case c5te => first | omega | (simp; omega)
          intro v2 x2 hown' hgrow _ hat
          have A1 : Shells x2 w.heap.size v2 (((N, L, C) :: tl) ++ [(N, L, C)]) := SRow.app hown'
          have A2 : w.grownBy x2 (some R) := on_app HGt.out hgrow (row_ge hO)
          have A3 : Rd x2 R _ := rd_grown (rd_alloc HRt.out _) hgrow (fun k hk => by have := row_ge hO k hk; omega)
          have H1 := Lib.hid A1
          have H2 := Lib.hid A2
          have H3 := Lib.hid A3
          clear A1 A2 A3 hown' hgrow hO hat
          go_wp2_with fail
          go_ret
          exact ⟨_, _, rfl, ⟨_, H1.out, by simp; omega⟩, by omega, H3.out, H2.out⟩
        have h1b : (t == 1) = false := by simp [h1]
        clear h1 hOt
        by_cases h2 : t = 2
        · subst h2
          go_wp2_with fail
          go_ret
          exact ⟨_, _, rfl, ⟨[], SRow.emptyAt rfl (by have := HGt.out.size; omega), by simp⟩, by omega, rd_alloc HRt.out _, on_alloc HGt.out _⟩
        have h2b : (t == 2) = false := by simp [h2]
        clear h2
        go_wp2_with fail
        go_ret
        exact ⟨_, _, rfl, ⟨_, HOu.out, by simp; omega⟩, by omega, HRt.out, HGt.out⟩
      obtain ⟨n, hlen⟩ : ∃ n, ys.length = n + 1 := ⟨ys.length - 1, by omega⟩
      obtain ⟨g0, cap0, rfl, _⟩ := own_slice HO.out hlen
      have hz1 : (((n + 1 : Nat) : Int) == 0) = false := by simp; omega
      clear hz
      go_wp2_with fail
      refine (s_pick _ _ _ _ HRD.out (by omega) (by omega)).mono ?_
      rintro e w51 ⟨t, rfl, t0, t1, tr, hg51⟩
      have t2 := t1 (by omega)
      clear t1
      have hOt : Shells w51 w.heap.size (.slice (some ⟨g0, 0, none⟩) (n + 1) cap0) ys := SRow.only HO.out hg51 hR
      have HGt : Hid (w.grownBy w51 (some R)) := Lib.hid (on_trans HG.out hg51)
      have HRt := Lib.hid tr
      have HOt := Lib.hid hOt
      clear tr hg51
      obtain ⟨g, cap, hv, hgb, hgl, hcell, hfr⟩ := own_slice hOt hlen
      obtain ⟨⟨N, L, C⟩, tl, hxs⟩ : ∃ p tl, ys = p :: tl := by
        cases hx : ys with
        | nil => rw [hx] at hlen; simp at hlen
        | cons p tl => exact ⟨p, tl, rfl⟩
      have hxl : ys.length ≤ 13 := by omega
      rw [hxs] at hOt hlen hxl
      simp only [List.length_cons] at hxl
      simp only [List.length_cons, Nat.add_right_cancel_iff] at hlen
      subst hlen
      simp only [Value.slice.injEq, Option.some.injEq, Addr.mk.injEq, and_true, true_and] at hv
      obtain ⟨rfl, rfl⟩ := hv
      obtain ⟨⟨v0, e0⟩, ⟨v1, e1⟩, v2, e2⟩ := And.intro (hcell 0 (by omega)) (And.intro (hcell 1 (by omega)) (hcell 2 (by omega)))
      have f2 := hfr 2
      obtain ⟨_, _, hse, _, hsc⟩ := SRow.opened scs_len hOt
      simp only [Value.slice.injEq] at hse
      obtain ⟨rfl, hse1, rfl⟩ := hse
      clear hse1
      rcases hsc with hsc | ⟨g2, hg2, _, _, hsc⟩
      · cases hsc
      simp only [Option.some.injEq, Addr.mk.injEq, and_true] at hg2
      subst hg2
      have c0 := hsc 0 0 _ _ rfl rfl
      have c1 := hsc 0 1 _ _ rfl rfl
      have c2 := hsc 0 2 _ _ rfl rfl
      simp only [Nat.zero_mul, Nat.zero_add] at c0 c1 c2
      have HOu := Lib.hid hOt
      clear hcell hfr hsc e0 e1 e2 v0 v1 v2 HOt hxs
      have z1 : (0 : Int) < ((tl.length + 1 : Nat) : Int) := by omega
      by_cases h0 : t = 0
      · subst h0
        clear hOt
        go_wp2_with fail
        go_ret
        exact ⟨_, _, rfl, ⟨_, shells_set0 HOu.out 0, by simp; omega⟩, by omega, rd_set HRt.out (show R < _ by simp; omega), on_set HGt.out (by first | exact hgb | (simp; omega)) _⟩
      have h0b : (t == 0) = false := by simp [h0]
      clear h0
      by_cases h1 : t = 1
      · subst h1
        unfold Shells SRow at hOt
        have hO := hOt
        clear hOt
        obtain ⟨hi, hz0, hz1, hz2⟩ := HI.out
        go_wp2_with (at_builtin; refine wpList_append_own_at _ rfl _ _ 44 rfl w.heap.size 51 i0 (.agg #[.int .i64 0, .int .i64 0, .int .i64 0]) 3 24 Try.underlying44 hi hz0 hz1 hz2 rfl (by decide) _ _ _ rfl (hO.alloc _) ⟨w51.heap.size, 0, none⟩ 1 1 (scs (N, L, C)) rfl rfl ?c1tf ?c2tf ?c3tf ?c4tf ?c5tf ?_)
        case c1tf => first | exact cells_new3 _ _ _ _ _ | exact fun _ _ h => h
        case c2tf => intro u hu; simp [scs] at hu; rcases hu with rfl | rfl | rfl <;> rfl
        case c3tf => unfold maxLen; first | omega | (simp only [List.length_cons]; omega)
        case c4tf => first | omega | (simp only [List.length_cons]; omega)
        case c5tf => first | omega | (simp; omega)
        intro v2 x2 hown' hgrow _ hat
        have A1 : Shells x2 w.heap.size v2 (((N, L, C) :: tl) ++ [(N, L, C)]) := SRow.app hown'
        have A2 : w.grownBy x2 (some R) := on_app HGt.out hgrow (row_ge hO)
        have A3 : Rd x2 R _ := rd_grown (rd_alloc HRt.out _) hgrow (fun k hk => by have := row_ge hO k hk; omega)
        have H1 := Lib.hid A1
        have H2 := Lib.hid A2
        have H3 := Lib.hid A3
        clear A1 A2 A3 hown' hgrow hO hat
        go_wp2_with fail
        go_ret
        exact ⟨_, _, rfl, ⟨_, H1.out, by simp; omega⟩, by omega, H3.out, H2.out⟩
      have h1b : (t == 1) = false := by simp [h1]
      clear h1 hOt
      by_cases h2 : t = 2
      · subst h2
        go_wp2_with fail
        go_ret
        exact ⟨_, _, rfl, ⟨[], SRow.emptyAt rfl (by have := HGt.out.size; omega), by simp⟩, by omega, rd_alloc HRt.out _, on_alloc HGt.out _⟩
      have h2b : (t == 2) = false := by simp [h2]
      clear h2
      go_wp2_with fail
      go_ret
      exact ⟨_, _, rfl, ⟨_, HOu.out, by simp; omega⟩, by omega, HRt.out, HGt.out⟩


set_option maxRecDepth 100000 in
set_option maxHeartbeats 1000000 in
theorem s_DrawHundConfig (s : Option Addr) (len cap : Nat) (w : World) (h : Code w s len cap) (hl : len ≤ 9223372036854775807) (hc : cap ≤ 9223372036854775807) :
    Calls Try.prog 28 #[.slice s len cap] w (RDrawC w) := by
  have H := Lib.hid h
  clear h
  go_enter Try.func28, Try.ntmps28
  go_wp2_with fail
  refine (s_l6Open s len cap _ H.out hl hc).mono ?_
  rintro e w1 ⟨rfl, hr, hb1⟩
  have HR := Lib.hid hr
  have HB := Lib.hid hb1
  have hlt := hr.lt
  clear hr hb1
  go_wp2_with fail
  refine (s_pick _ _ _ _ HR.out (by omega) (by omega)).mono ?_
  rintro e w2 ⟨t, rfl, t0, t1, tr, hg⟩
  have t2 := t1 (by omega)
  clear t1
  have HT := Lib.hid tr
  have HG := Lib.hid hg
  have hs := hg.size
  clear tr hg
  by_cases ht : t = 0
  · subst ht
    go_wp2_with fail
    refine (s_l92Config _ _ _ HT.out (by omega)).mono ?_
    rintro e w3 ⟨v', q, rfl, ⟨xs, hO, hx⟩, _, _, hg3⟩
    have H1 : Hid (Shells w3 w.heap.size v' xs) := Lib.hid (SRow.lower hO (by omega))
    have H2 : Hid (Below w.heap.size w w3) := Lib.hid (bl_only (bl_only HB.out HG (Nat.le_refl _)) (Lib.hid hg3) (Nat.le_refl _))
    clear hO hg3
    go_wp2_with fail
    go_ret
    exact ⟨_, rfl, ⟨xs, H1.out, hx⟩, H2.out⟩
  have ht1 : (t == 0) = false := by simp [ht]
  clear ht
  go_wp2_with fail
  refine (s_pick _ _ _ _ HT.out (by omega) (by omega)).mono ?_
  rintro e w3 ⟨y, rfl, y0, y1, yr, hg3⟩
  have y2 := y1 (by omega)
  clear y1 yr
  have HG3 := Lib.hid hg3
  have hs3 := hg3.size
  clear hg3
  go_wp2_with fail
  refine (s_ConfigGround _ _ (by omega) (by omega)).mono ?_
  rintro e w4 ⟨v', rfl, ⟨xs, hO, hx⟩, hb4⟩
  have H1 : Hid (Shells w4 w.heap.size v' xs) := Lib.hid (SRow.lower hO (by omega))
  have H2 : Hid (Below w.heap.size w w4) := Lib.hid (btr (bl_only (bl_only HB.out HG (Nat.le_refl _)) HG3 (Nat.le_refl _)) hb4)
  clear hO hb4
  go_wp2_with fail
  go_ret
  exact ⟨_, rfl, ⟨xs, H1.out, by omega⟩, H2.out⟩

end Go.Proofs.Ytpdhbilghmejiaa
