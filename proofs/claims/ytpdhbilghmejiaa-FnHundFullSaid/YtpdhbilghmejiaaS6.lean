/- Contracts of HundConfig, of the program and of the reference. -/
import Derived.Test.YtpdhbilghmejiaaS5
import Derived.Test.YtpdhbilghmejiaaM
namespace Go.Proofs.Ytpdhbilghmejiaa
open Go.RowKit
set_option linter.unusedVariables false

/-- What HundConfig returns. -/
def hcfR (xs : List Sh) : Int × Int × Int × Bool :=
  if cfgB xs = true ∧ (openL xs).length ≤ 1 then
    (match openL xs with
     | [] => (0, 0, 0, true)
     | p :: _ => hlvR p.2.1 p.2.2)
  else (0, 0, 0, false)
theorem hcf_bad {xs : List Sh} {S L J : Int} {o : Bool} (h : hcfR xs = (S, L, J, o)) (hc : cfgB xs = false ∨ 1 < (openL xs).length) : S = 0 ∧ L = 0 ∧ J = 0 ∧ o = false := by
  unfold hcfR at h
  rw [if_neg (by rcases hc with h | h; (simp [h]); (intro h2; omega))] at h
  simp only [Prod.mk.injEq] at h
  exact ⟨h.1.symm, h.2.1.symm, h.2.2.1.symm, h.2.2.2.symm⟩
theorem hcf_none {xs : List Sh} {S L J : Int} {o : Bool} (h : hcfR xs = (S, L, J, o)) (hc : cfgB xs = true) (he : openL xs = []) : S = 0 ∧ L = 0 ∧ J = 0 ∧ o = true := by
  unfold hcfR at h
  rw [if_pos (by simp [hc, he]), he] at h
  simp only [Prod.mk.injEq] at h
  exact ⟨h.1.symm, h.2.1.symm, h.2.2.1.symm, h.2.2.2.symm⟩
theorem hcf_one {xs : List Sh} {S L J : Int} {o : Bool} {p : Sh} (h : hcfR xs = (S, L, J, o)) (hc : cfgB xs = true) (he : openL xs = [p]) : hlvR p.2.1 p.2.2 = (S, L, J, o) := by
  unfold hcfR at h
  rw [if_pos (by simp [hc, he]), he] at h
  exact h
theorem openL_le (xs : List Sh) : (openL xs).length ≤ xs.length := by
  unfold openL
  split
  · exact List.length_filter_le _ _
  · simp
theorem len_one {xs : List Sh} (h : xs.length = 1) : ∃ p, xs = [p] := List.length_eq_one_iff.1 h

set_option maxRecDepth 100000 in
set_option maxHeartbeats 2000000 in
theorem i_HundConfig (v : Value) (xs : List Sh) (b : Nat) (S L J : Int) (o : Bool) (w : World) (hv : Shells w b v xs) (hn : xs.length ≤ 2000000) (h : Hid (hcfR xs = (S, L, J, o))) :
    Calls Try.prog 26 #[v] w fun e w' => e = .returned (.tuple #[.agg #[.int .i64 S, .int .i64 L, .int .i64 J], .bool o]) ∧ Below w.heap.size w w' := by
  have HV := Lib.hid hv
  clear hv
  cases hcf : cfgB xs
  · obtain ⟨rfl, rfl, rfl, rfl⟩ := hcf_bad h.out (.inl hcf)
    clear h
    go_enter Try.func26, Try.ntmps26
    go_wp2_with fail
    refine (i_ConfigOpen v xs b _ (SRow.alloc HV.out _) hn).mono ?_
    rintro e w1 ⟨vo, rfl, ho, hb1⟩
    have Kw1_r : Blk w1 (w.heap.size) #[.int .i64 0, .int .i64 0, .int .i64 0] := blk_later hb1 (blk_new (by simp))
    obtain ⟨w1_c0_r, w1_c1_r, w1_c2_r, w1_f0_r, w1_f1_r, w1_f2_r⟩ := blk3 Kw1_r
    have Kw1_rH := Lib.hid Kw1_r
    have w1_l_r := Kw1_r.lt
    have w1_m_r : w.heap.size < w1.heap.size + 1 := by omega
    have w1z := hb1.size
    try simp at w1z
    have w1B := Lib.hid hb1
    clear Kw1_r
    clear hb1
    have HVA : Hid (Shells w1 b v xs) := Lib.hid (SRow.kept (SRow.alloc HV.out _) w1B.out)
    have HOA := Lib.hid ho
    clear ho
    go_wp2_with fail
    refine (i_ConfigValid v xs b _ HVA.out hn).mono ?_
    rintro e w2 ⟨rfl, hb2⟩
    have Kw2_r : Blk w2 (w.heap.size) #[.int .i64 0, .int .i64 0, .int .i64 0] := blk_later hb2 Kw1_rH.out
    obtain ⟨w2_c0_r, w2_c1_r, w2_c2_r, w2_f0_r, w2_f1_r, w2_f2_r⟩ := blk3 Kw2_r
    have Kw2_rH := Lib.hid Kw2_r
    have w2_l_r := Kw2_r.lt
    have w2_m_r : w.heap.size < w2.heap.size + 1 := by omega
    have w2z := hb2.size
    try simp at w2z
    have w2B := Lib.hid hb2
    clear Kw2_r
    clear hb2
    have HO2 := Lib.hid (SRow.kept HOA.out w2B.out)
    clear HOA HVA
    rw [hcf]
    go_wp2_with fail
    refine bodyPost_ret (v := .tuple #[.agg #[.int .i64 0, .int .i64 0, .int .i64 0], .bool false]) ?_ rfl ?_
    · have KR : Blk _ (w.heap.size) #[.int .i64 0, .int .i64 0, .int .i64 0] := (blk_set (blk_set (blk_set Kw2_rH.out 0 (.int .i64 0)) 1 (.int .i64 0)) 2 (.int .i64 0))
      obtain ⟨r0, r1, r2, _, _, _⟩ := blk3 KR
      simp [results, Try.results26, go_sem, r0, r1, r2]
    · exact ⟨rfl, by (repeat' (first | exact Below.refl _ _ | refine bl_out ?_ (by assumption) | exact (Hid.out (by assumption)) | refine bl_alloc ?_ _ | refine bl_drewN ?_ _ | refine bl_drew ?_ | refine bl_set ?_ ?_ _ | omega | (simp; done) | (simp; omega)))⟩
  · have hle := openL_le xs
    go_enter Try.func26, Try.ntmps26
    go_wp2_with fail
    refine (i_ConfigOpen v xs b _ (SRow.alloc HV.out _) hn).mono ?_
    rintro e w1 ⟨vo, rfl, ho, hb1⟩
    have Kw1_r : Blk w1 (w.heap.size) #[.int .i64 0, .int .i64 0, .int .i64 0] := blk_later hb1 (blk_new (by simp))
    obtain ⟨w1_c0_r, w1_c1_r, w1_c2_r, w1_f0_r, w1_f1_r, w1_f2_r⟩ := blk3 Kw1_r
    have Kw1_rH := Lib.hid Kw1_r
    have w1_l_r := Kw1_r.lt
    have w1_m_r : w.heap.size < w1.heap.size + 1 := by omega
    have w1z := hb1.size
    try simp at w1z
    have w1B := Lib.hid hb1
    clear Kw1_r
    clear hb1
    have HVA : Hid (Shells w1 b v xs) := Lib.hid (SRow.kept (SRow.alloc HV.out _) w1B.out)
    have HOA := Lib.hid ho
    clear ho
    go_wp2_with fail
    refine (i_ConfigValid v xs b _ HVA.out hn).mono ?_
    rintro e w2 ⟨rfl, hb2⟩
    have Kw2_r : Blk w2 (w.heap.size) #[.int .i64 0, .int .i64 0, .int .i64 0] := blk_later hb2 Kw1_rH.out
    obtain ⟨w2_c0_r, w2_c1_r, w2_c2_r, w2_f0_r, w2_f1_r, w2_f2_r⟩ := blk3 Kw2_r
    have Kw2_rH := Lib.hid Kw2_r
    have w2_l_r := Kw2_r.lt
    have w2_m_r : w.heap.size < w2.heap.size + 1 := by omega
    have w2z := hb2.size
    try simp at w2z
    have w2B := Lib.hid hb2
    clear Kw2_r
    clear hb2
    have HO2 := Lib.hid (SRow.kept HOA.out w2B.out)
    clear HOA HVA
    rw [hcf]
    generalize hox : openL xs = os at *
    have HX := Lib.hid hox
    clear hox
    obtain ⟨ao, co, rfl, hco⟩ := Shells.opened HO2.out
    have hcf2 := Lib.hid hcf
    clear hcf
    by_cases h2 : 1 < os.length
    · obtain ⟨rfl, rfl, rfl, rfl⟩ := hcf_bad h.out (.inr (by rw [HX.out]; exact h2))
      clear h hco
      go_wp2_with fail
      refine bodyPost_ret (v := .tuple #[.agg #[.int .i64 0, .int .i64 0, .int .i64 0], .bool false]) ?_ rfl ?_
      · have KR : Blk _ (w.heap.size) #[.int .i64 0, .int .i64 0, .int .i64 0] := (blk_set (blk_set (blk_set Kw2_rH.out 0 (.int .i64 0)) 1 (.int .i64 0)) 2 (.int .i64 0))
        obtain ⟨r0, r1, r2, _, _, _⟩ := blk3 KR
        simp [results, Try.results26, go_sem, r0, r1, r2]
      · exact ⟨rfl, by (repeat' (first | exact Below.refl _ _ | refine bl_out ?_ (by assumption) | exact (Hid.out (by assumption)) | refine bl_alloc ?_ _ | refine bl_drewN ?_ _ | refine bl_drew ?_ | refine bl_set ?_ ?_ _ | omega | (simp; done) | (simp; omega)))⟩
    by_cases h0 : os.length = 0
    · obtain rfl : os = [] := List.length_eq_zero_iff.1 h0
      obtain ⟨rfl, rfl, rfl, rfl⟩ := hcf_none h.out hcf2.out HX.out
      clear h hco h0 h2 hle
      simp only [List.length_nil]
      go_wp2_with fail
      refine bodyPost_ret (v := .tuple #[.agg #[.int .i64 0, .int .i64 0, .int .i64 0], .bool true]) ?_ rfl ?_
      · have KR : Blk _ (w.heap.size) #[.int .i64 0, .int .i64 0, .int .i64 0] := (blk_set (blk_set (blk_set Kw2_rH.out 0 (.int .i64 0)) 1 (.int .i64 0)) 2 (.int .i64 0))
        obtain ⟨r0, r1, r2, _, _, _⟩ := blk3 KR
        simp [results, Try.results26, go_sem, r0, r1, r2]
      · exact ⟨rfl, by (repeat' (first | exact Below.refl _ _ | refine bl_out ?_ (by assumption) | exact (Hid.out (by assumption)) | refine bl_alloc ?_ _ | refine bl_drewN ?_ _ | refine bl_drew ?_ | refine bl_set ?_ ?_ _ | omega | (simp; done) | (simp; omega)))⟩
    obtain ⟨⟨N, Lx, C⟩, rfl⟩ := len_one (show os.length = 1 by omega)
    have HL := Lib.hid (hcf_one h.out hcf2.out HX.out)
    clear h h0 h2 hle
    rcases hco with hco | ⟨g, rfl, hg1, hg2, hco⟩
    · cases hco
    obtain ⟨_, e1, e2⟩ := hco 0 (by simp)
    have e1 : w2.cell? ⟨g, 1, none⟩ = some (.int .i64 Lx) := e1
    have e2 : w2.cell? ⟨g, 2, none⟩ = some (.int .i64 C) := e2
    clear hco
    try simp at hg1
    have ne1 : w.heap.size ≠ g := by omega
    have ne2 : g ≠ w.heap.size := by omega
    simp only [List.length_cons, List.length_nil]
    go_wp2_with fail
    go_region_held3 (fun w' => w'.cell? ⟨g, 1, none⟩ = some (.int .i64 Lx) ∧ w'.cell? ⟨g, 2, none⟩ = some (.int .i64 C)) (first | exact ⟨e1, e2⟩ | exact ⟨q1, q2⟩ | go_keep) ((go_at_call 17; refine (i_HundLevel _ _ _ _ _ _ _ HL).mono ?_; rintro e w4 ⟨rfl, hb4⟩; have q1 : w4.cell? ⟨g, 1, none⟩ = some (.int .i64 Lx) := held_cell hb4 (show w2.drew.cell? ⟨g, 1, none⟩ = _ from e1) hg2; have q2 : w4.cell? ⟨g, 2, none⟩ = some (.int .i64 C) := held_cell hb4 (show w2.drew.cell? ⟨g, 2, none⟩ = _ from e2) hg2; have K4 : Blk w4 w.heap.size #[.int .i64 0, .int .i64 0, .int .i64 0] := blk_later hb4 (blk_drew Kw2_rH.out); obtain ⟨k0, k1, k2, f0, f1, f2⟩ := blk3 K4; have HK4 := Lib.hid K4; clear K4))
    all_goals go_wp2_with fail
    all_goals refine bodyPost_ret (v := .tuple #[.agg #[.int .i64 S, .int .i64 L, .int .i64 J], .bool o]) ?_ rfl ?_
    all_goals first
      | (have KR : Blk _ w.heap.size #[.int .i64 S, .int .i64 L, .int .i64 J] := blk_set (blk_set (blk_set HK4.out 0 (.int .i64 S)) 1 (.int .i64 L)) 2 (.int .i64 J)
         obtain ⟨r0, r1, r2, _, _, _⟩ := blk3 KR
         (simp [results, Try.results26, go_sem, r0, r1, r2]; done))
      | exact ⟨rfl, bl_set (bl_set (bl_set (btr (bl_drew (btr (btr (bl_alloc (Below.refl _ _) _) w1B.out) w2B.out)) hb4) (Nat.le_refl _) _) (Nat.le_refl _) _) (Nat.le_refl _) _⟩

set_option maxRecDepth 100000 in
set_option maxHeartbeats 2000000 in
theorem s_HundConfig (v : Value) (xs : List Sh) (b : Nat) (S L J : Int) (o : Bool) (w : World) (hv : Shells w b v xs) (hn : xs.length ≤ 2000000) (h : Hid (hcfR xs = (S, L, J, o))) :
    Calls Try.prog 24 #[v] w fun e w' => e = .returned (.tuple #[.agg #[.int .i64 S, .int .i64 L, .int .i64 J], .bool o]) ∧ Below w.heap.size w w' := by
  have HV := Lib.hid hv
  clear hv
  cases hcf : cfgB xs
  · obtain ⟨rfl, rfl, rfl, rfl⟩ := hcf_bad h.out (.inl hcf)
    clear h
    go_enter Try.func24, Try.ntmps24
    go_wp2_with fail
    refine (s_ConfigOpen v xs b _ (SRow.alloc HV.out _) hn).mono ?_
    rintro e w1 ⟨vo, rfl, ho, hb1⟩
    have Kw1_r : Blk w1 (w.heap.size) #[.int .i64 0, .int .i64 0, .int .i64 0] := blk_later hb1 (blk_new (by simp))
    obtain ⟨w1_c0_r, w1_c1_r, w1_c2_r, w1_f0_r, w1_f1_r, w1_f2_r⟩ := blk3 Kw1_r
    have Kw1_rH := Lib.hid Kw1_r
    have w1_l_r := Kw1_r.lt
    have w1_m_r : w.heap.size < w1.heap.size + 1 := by omega
    have w1z := hb1.size
    try simp at w1z
    have w1B := Lib.hid hb1
    clear Kw1_r
    clear hb1
    have HVA : Hid (Shells w1 b v xs) := Lib.hid (SRow.kept (SRow.alloc HV.out _) w1B.out)
    have HOA := Lib.hid ho
    clear ho
    go_wp2_with fail
    refine (s_ConfigValid v xs b _ HVA.out hn).mono ?_
    rintro e w2 ⟨rfl, hb2⟩
    have Kw2_r : Blk w2 (w.heap.size) #[.int .i64 0, .int .i64 0, .int .i64 0] := blk_later hb2 Kw1_rH.out
    obtain ⟨w2_c0_r, w2_c1_r, w2_c2_r, w2_f0_r, w2_f1_r, w2_f2_r⟩ := blk3 Kw2_r
    have Kw2_rH := Lib.hid Kw2_r
    have w2_l_r := Kw2_r.lt
    have w2_m_r : w.heap.size < w2.heap.size + 1 := by omega
    have w2z := hb2.size
    try simp at w2z
    have w2B := Lib.hid hb2
    clear Kw2_r
    clear hb2
    have HO2 := Lib.hid (SRow.kept HOA.out w2B.out)
    clear HOA HVA
    rw [hcf]
    go_wp2_with fail
    refine bodyPost_ret (v := .tuple #[.agg #[.int .i64 0, .int .i64 0, .int .i64 0], .bool false]) ?_ rfl ?_
    · have KR : Blk _ (w.heap.size) #[.int .i64 0, .int .i64 0, .int .i64 0] := (blk_set (blk_set (blk_set Kw2_rH.out 0 (.int .i64 0)) 1 (.int .i64 0)) 2 (.int .i64 0))
      obtain ⟨r0, r1, r2, _, _, _⟩ := blk3 KR
      simp [results, Try.results24, go_sem, r0, r1, r2]
    · exact ⟨rfl, by (repeat' (first | exact Below.refl _ _ | refine bl_out ?_ (by assumption) | exact (Hid.out (by assumption)) | refine bl_alloc ?_ _ | refine bl_drewN ?_ _ | refine bl_drew ?_ | refine bl_set ?_ ?_ _ | omega | (simp; done) | (simp; omega)))⟩
  · have hle := openL_le xs
    go_enter Try.func24, Try.ntmps24
    go_wp2_with fail
    refine (s_ConfigOpen v xs b _ (SRow.alloc HV.out _) hn).mono ?_
    rintro e w1 ⟨vo, rfl, ho, hb1⟩
    have Kw1_r : Blk w1 (w.heap.size) #[.int .i64 0, .int .i64 0, .int .i64 0] := blk_later hb1 (blk_new (by simp))
    obtain ⟨w1_c0_r, w1_c1_r, w1_c2_r, w1_f0_r, w1_f1_r, w1_f2_r⟩ := blk3 Kw1_r
    have Kw1_rH := Lib.hid Kw1_r
    have w1_l_r := Kw1_r.lt
    have w1_m_r : w.heap.size < w1.heap.size + 1 := by omega
    have w1z := hb1.size
    try simp at w1z
    have w1B := Lib.hid hb1
    clear Kw1_r
    clear hb1
    have HVA : Hid (Shells w1 b v xs) := Lib.hid (SRow.kept (SRow.alloc HV.out _) w1B.out)
    have HOA := Lib.hid ho
    clear ho
    go_wp2_with fail
    refine (s_ConfigValid v xs b _ HVA.out hn).mono ?_
    rintro e w2 ⟨rfl, hb2⟩
    have Kw2_r : Blk w2 (w.heap.size) #[.int .i64 0, .int .i64 0, .int .i64 0] := blk_later hb2 Kw1_rH.out
    obtain ⟨w2_c0_r, w2_c1_r, w2_c2_r, w2_f0_r, w2_f1_r, w2_f2_r⟩ := blk3 Kw2_r
    have Kw2_rH := Lib.hid Kw2_r
    have w2_l_r := Kw2_r.lt
    have w2_m_r : w.heap.size < w2.heap.size + 1 := by omega
    have w2z := hb2.size
    try simp at w2z
    have w2B := Lib.hid hb2
    clear Kw2_r
    clear hb2
    have HO2 := Lib.hid (SRow.kept HOA.out w2B.out)
    clear HOA HVA
    rw [hcf]
    generalize hox : openL xs = os at *
    have HX := Lib.hid hox
    clear hox
    obtain ⟨ao, co, rfl, hco⟩ := Shells.opened HO2.out
    have hcf2 := Lib.hid hcf
    clear hcf
    by_cases h2 : 1 < os.length
    · obtain ⟨rfl, rfl, rfl, rfl⟩ := hcf_bad h.out (.inr (by rw [HX.out]; exact h2))
      clear h hco
      go_wp2_with fail
      refine bodyPost_ret (v := .tuple #[.agg #[.int .i64 0, .int .i64 0, .int .i64 0], .bool false]) ?_ rfl ?_
      · have KR : Blk _ (w.heap.size) #[.int .i64 0, .int .i64 0, .int .i64 0] := (blk_set (blk_set (blk_set Kw2_rH.out 0 (.int .i64 0)) 1 (.int .i64 0)) 2 (.int .i64 0))
        obtain ⟨r0, r1, r2, _, _, _⟩ := blk3 KR
        simp [results, Try.results24, go_sem, r0, r1, r2]
      · exact ⟨rfl, by (repeat' (first | exact Below.refl _ _ | refine bl_out ?_ (by assumption) | exact (Hid.out (by assumption)) | refine bl_alloc ?_ _ | refine bl_drewN ?_ _ | refine bl_drew ?_ | refine bl_set ?_ ?_ _ | omega | (simp; done) | (simp; omega)))⟩
    by_cases h0 : os.length = 0
    · obtain rfl : os = [] := List.length_eq_zero_iff.1 h0
      obtain ⟨rfl, rfl, rfl, rfl⟩ := hcf_none h.out hcf2.out HX.out
      clear h hco h0 h2 hle
      simp only [List.length_nil]
      go_wp2_with fail
      refine bodyPost_ret (v := .tuple #[.agg #[.int .i64 0, .int .i64 0, .int .i64 0], .bool true]) ?_ rfl ?_
      · have KR : Blk _ (w.heap.size) #[.int .i64 0, .int .i64 0, .int .i64 0] := (blk_set (blk_set (blk_set Kw2_rH.out 0 (.int .i64 0)) 1 (.int .i64 0)) 2 (.int .i64 0))
        obtain ⟨r0, r1, r2, _, _, _⟩ := blk3 KR
        simp [results, Try.results24, go_sem, r0, r1, r2]
      · exact ⟨rfl, by (repeat' (first | exact Below.refl _ _ | refine bl_out ?_ (by assumption) | exact (Hid.out (by assumption)) | refine bl_alloc ?_ _ | refine bl_drewN ?_ _ | refine bl_drew ?_ | refine bl_set ?_ ?_ _ | omega | (simp; done) | (simp; omega)))⟩
    obtain ⟨⟨N, Lx, C⟩, rfl⟩ := len_one (show os.length = 1 by omega)
    have HL := Lib.hid (hcf_one h.out hcf2.out HX.out)
    clear h h0 h2 hle
    rcases hco with hco | ⟨g, rfl, hg1, hg2, hco⟩
    · cases hco
    obtain ⟨_, e1, e2⟩ := hco 0 (by simp)
    have e1 : w2.cell? ⟨g, 1, none⟩ = some (.int .i64 Lx) := e1
    have e2 : w2.cell? ⟨g, 2, none⟩ = some (.int .i64 C) := e2
    clear hco
    try simp at hg1
    have ne1 : w.heap.size ≠ g := by omega
    have ne2 : g ≠ w.heap.size := by omega
    simp only [List.length_cons, List.length_nil]
    go_wp2_with fail
    go_region_held3 (fun w' => w'.cell? ⟨g, 1, none⟩ = some (.int .i64 Lx) ∧ w'.cell? ⟨g, 2, none⟩ = some (.int .i64 C)) (first | exact ⟨e1, e2⟩ | exact ⟨q1, q2⟩ | go_keep) ((go_at_call 16; refine (s_HundLevel _ _ _ _ _ _ _ HL).mono ?_; rintro e w4 ⟨rfl, hb4⟩; have q1 : w4.cell? ⟨g, 1, none⟩ = some (.int .i64 Lx) := held_cell hb4 (show w2.drew.cell? ⟨g, 1, none⟩ = _ from e1) hg2; have q2 : w4.cell? ⟨g, 2, none⟩ = some (.int .i64 C) := held_cell hb4 (show w2.drew.cell? ⟨g, 2, none⟩ = _ from e2) hg2; have K4 : Blk w4 w.heap.size #[.int .i64 0, .int .i64 0, .int .i64 0] := blk_later hb4 (blk_drew Kw2_rH.out); obtain ⟨k0, k1, k2, f0, f1, f2⟩ := blk3 K4; have HK4 := Lib.hid K4; clear K4))
    all_goals go_wp2_with fail
    all_goals refine bodyPost_ret (v := .tuple #[.agg #[.int .i64 S, .int .i64 L, .int .i64 J], .bool o]) ?_ rfl ?_
    all_goals first
      | (have KR : Blk _ w.heap.size #[.int .i64 S, .int .i64 L, .int .i64 J] := blk_set (blk_set (blk_set HK4.out 0 (.int .i64 S)) 1 (.int .i64 L)) 2 (.int .i64 J)
         obtain ⟨r0, r1, r2, _, _, _⟩ := blk3 KR
         (simp [results, Try.results24, go_sem, r0, r1, r2]; done))
      | exact ⟨rfl, bl_set (bl_set (bl_set (btr (bl_drew (btr (btr (bl_alloc (Below.refl _ _) _) w1B.out) w2B.out)) hb4) (Nat.le_refl _) _) (Nat.le_refl _) _) (Nat.le_refl _) _⟩

end Go.Proofs.Ytpdhbilghmejiaa
