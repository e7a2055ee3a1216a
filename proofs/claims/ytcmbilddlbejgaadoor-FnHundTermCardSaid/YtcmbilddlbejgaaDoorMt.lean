/- A map from pairs of sums to counts: what 'table[k]++' and 'table[k]--' leave. -/
import Derived.WideKeyEntry
import Derived.DeepKeys4
import Derived.Maps.OwnOps
import Derived.Maps.Views
import Derived.Test.YtcmbilddlbejgaaDoorR
namespace Go.Proofs.YtcmbilddlbejgaaDoor
open Go.RowKit
open Go.ChangeMaps (setBlock heap_setBlock_same heap_setBlock_other)
open Go.WideElems (Fit entry_then_store)
open Go.WideMaps (KeyLaw)
set_option linter.unusedVariables false

abbrev KT : TypeId := 41
abbrev MT : TypeId := 38
theorem mtLaid : laidOutB Tryd.prog = true := by kernel_rfl
theorem mtRow : KT < Tryd.prog.types.size := of_decide_eq_true (by kernel_rfl)
theorem mtWide : (match Tryd.prog.underlying KT with | some (.array _ _) | some (.struct _) => true | _ => false) = true := by rw [Tryd.underlying41]
theorem mtLaw : KeyLaw Tryd.prog KT := deep_law_laid mtLaid (m := 2) (by omega) mtRow (by kernel_rfl) mtWide
theorem mtKeyed : Maps.Keyed Tryd.prog KT := Maps.Keyed.of_law mtLaw
theorem mtKeyType : Tryd.prog.keyType KT = true := by kernel_rfl
theorem mtCells : Tryd.prog.cellsOf KT = 2 := by kernel_rfl
theorem mtCell3 : Tryd.prog.cellsOf 3 = 1 := by kernel_rfl
theorem mtZero (w : World) : (zeroValue 3).run Tryd.prog w = .ok (.int .i64 0) w := by kernel_rfl
/-- The key of two sums. -/
abbrev ky (x y : Int) : Value := .agg #[.int .i64 x, .int .i64 y]
theorem ky_formed (x y : Int) : (ky x y).formed Tryd.prog KT = true := by simp [Value.formed, Tryd.underlying41, mtCells]
theorem i64_wf {n : Int} (h : I64 n) : (Lit.int .i64 n).wf = true := by
  unfold I64 at h
  simp [Lit.wf, IntKind.min, IntKind.max, IntKind.signed, IntKind.bits, h]
theorem ky_int (m : Nat) {x : Int} (h : (Lit.int .i64 x).wf = true) : Tryd.prog.keyLits (m + 1) 3 [.int .i64 x] = some [.int .i64 x] := by
  unfold Program.keyLits
  rw [Tryd.underlying3]
  simp [h]
theorem ky_key {x y : Int} (hx : I64 x) (hy : I64 y) : ∃ kl, keyOf Tryd.prog KT (ky x y) = some kl := by
  obtain ⟨m, hm⟩ : ∃ m, Tryd.prog.types.size = m + 1 := ⟨Tryd.prog.types.size - 1, by have : Tryd.prog.types.size ≠ 0 := Nat.ne_of_gt (Nat.lt_of_le_of_lt (Nat.zero_le _) mtRow); exact (Nat.succ_pred_eq_of_ne_zero this).symm⟩
  have wx := i64_wf hx
  have wy := i64_wf hy
  unfold keyOf
  rw [Tryd.underlying41]
  simp only [mtKeyType, ky_formed, Bool.and_self, if_true, hm]
  unfold Program.keyLits
  rw [Tryd.underlying41]
  simp [mtCells, mtCell3, Value.cells, ky_int m wx, ky_int m wy]

theorem mt_cell {a b : World} {row : Option Nat} (h : a.grownBy b row) {g i : Nat} {v : Value} (hc : a.cell? ⟨g, i, none⟩ = some v) (hl : g < a.heap.size) (hne : row ≠ some g) : b.cell? ⟨g, i, none⟩ = some v := by
  rw [World.cell?_of_block (w := a) (a := ⟨g, i, none⟩) (h.block g hl (fun e => hne e.symm))]; exact hc
/-- BLOCK b IS A MAP THAT COUNTS f. -/
def MTab (w : World) (b n : Nat) (f : Int → Int → Int) : Prop :=
  ∃ D : DataW Unit, w.ownsMap Tryd.prog KT (plainElem Tryd.prog 3) b n D ∧ ∀ x y kl, keyOf Tryd.prog KT (ky x y) = some kl → D.atKey kl (.lit (.int .i64 0)) = .lit (.int .i64 (f x y))
theorem MTab.lt {w : World} {b n : Nat} {f : Int → Int → Int} (h : MTab w b n f) : b < w.heap.size := by obtain ⟨D, h, _⟩ := h; exact h.lt
theorem MTab.kept {w w' : World} {row : Option Nat} {b n : Nat} {f : Int → Int → Int} (h : MTab w b n f) (hg : w.grownBy w' row) (hne : some b ≠ row) : MTab w' b n f := by
  obtain ⟨D, h, hat⟩ := h
  exact ⟨D, h.kept hg hne, hat⟩
theorem MTab.alloc {w : World} {b n : Nat} {f : Int → Int → Int} (h : MTab w b n f) (o : Obj) : MTab (w.alloc o) b n f := h.kept (World.grownBy_alloc w o none) (by simp)
theorem MTab.drew {w : World} {b n : Nat} {f : Int → Int → Int} (h : MTab w b n f) : MTab w.drew b n f := h
theorem MTab.mono {w : World} {b n n' : Nat} {f : Int → Int → Int} (h : MTab w b n f) (hn : n ≤ n') : MTab w b n' f := by
  obtain ⟨D, h, hat⟩ := h
  exact ⟨D, h.mono hn, hat⟩
theorem MTab.later {w w' : World} {b n : Nat} {f : Int → Int → Int} (h : MTab w b n f) (hb : Below w.heap.size w w') : MTab w' b n f :=
  h.kept (row := none) ⟨hb.os, hb.tape, hb.output, hb.size, fun k hk _ => hb.block k hk⟩ (by simp)
theorem MTab.congr {w : World} {b n : Nat} {f g : Int → Int → Int} (h : MTab w b n f) (e : ∀ x y, f x y = g x y) : MTab w b n g := by
  obtain ⟨D, h, hat⟩ := h
  exact ⟨D, h, fun x y kl hk => by rw [hat x y kl hk, e]⟩
theorem mtab_made (w : World) : MTab (w.alloc (.map #[] 0)) w.heap.size 0 (fun _ _ => 0) :=
  ⟨.map [], World.ownsMap_made w _ _ _, fun _ _ _ _ => rfl⟩
/-- The count of two sums. -/
theorem MTab.look {w : World} {b n : Nat} {f : Int → Int → Int} (h : MTab w b n f) {x y : Int} (hx : I64 x) (hy : I64 y) : (Instr.lookup MT (.map (some b)) (ky x y) false).run Tryd.prog w = .ok (.int .i64 (f x y)) w := by
  obtain ⟨D, h, hat⟩ := h
  obtain ⟨kl, hk⟩ := ky_key hx hy
  obtain ⟨c, hrun, hc, _⟩ := h.lookup_int mtKeyed Tryd.underlying38 Tryd.underlying3 (mtZero w) hk
  have := hat x y kl hk
  rw [hc] at this
  cases this
  exact hrun
/-- The new count of two sums. -/
def updF (f : Int → Int → Int) (x y v : Int) (a b : Int) : Int := if a = x ∧ b = y then v else f a b
theorem ky_inj {a b x y : Int} {kl : Lit} (h1 : keyOf Tryd.prog KT (ky a b) = some kl) (h2 : keyOf Tryd.prog KT (ky x y) = some kl) : a = x ∧ b = y := by
  have := mtLaw.inj h1 h2
  simpa using this

/-- 'table[k]++': THE ENTRY, THEN THE STORE; BETWEEN THEM THE COUNT READS AS IT DID. -/
theorem MTab.step {w : World} {b n : Nat} {f : Int → Int → Int} (h : MTab w b n f) (hn : n + 1 < maxLen) {x y v : Int} (hx : I64 x) (hy : I64 y) (hv : I64 v) :
    ∃ (c : Value) (st : Int) (w1 w2 : World), (Instr.mapEntry MT (.map (some b)) (ky x y)).run Tryd.prog w = .ok (.tuple #[c, .int .i64 st]) w1 ∧ MTab w1 b (n + 1) f ∧ w.grownBy w1 (some b) ∧
      (Instr.entryStore MT (.map (some b)) (.int .i64 st) (.int .i64 v)).run Tryd.prog w1 = .ok () w2 ∧ MTab w2 b (n + 1) (updF f x y v) ∧ w1.grownBy w2 (some b) := by
  obtain ⟨kl, hk⟩ := ky_key hx hy
  obtain ⟨D, hD, hat⟩ := h
  have hD0 := hD
  obtain ⟨es, clock, hb, F, hsz, rfl⟩ := hD
  obtain ⟨v0, st, es1, clock1, hE, _, hS⟩ := entry_then_store mtLaw Tryd.underlying38 mtZero hb F hk
  have g1 : w.grownBy (setBlock w b (.map es1 clock1)) (some b) := ⟨rfl, rfl, rfl, by simp [setBlock], fun i _ hi => heap_setBlock_other hb _ (fun e => hi (by rw [e]))⟩
  have hb1 := heap_setBlock_same hb (.map es1 clock1)
  -- the world between
  have M1 : MTab (setBlock w b (.map es1 clock1)) b (n + 1) f := by
    rcases mtLaw.find w hk es.toList F.keys with ⟨h1, h2⟩ | ⟨j, e0, h1, h2, h3⟩
    · -- no such entry: it is made, of nought
      obtain ⟨w', hrun, hown, _⟩ := hD0.update mtKeyed Tryd.underlying38 (Nat.lt_of_succ_lt hn) hk (plainElem_int (H := Unit) Tryd.underlying3 (a := 0) (by decide))
      have e1 : (Instr.mapEntry MT (.map (some b)) (ky x y)).run Tryd.prog w = .ok (.tuple #[.int .i64 0, goInt clock]) (setBlock w b (.map (es.push ⟨ky x y, .int .i64 0, clock⟩) (clock + 1))) := by
        simp [Instr.mapEntry, run_underlying Tryd.underlying38, MapKept.run_getObj_map hb, mtLaw.check w false hk, h1, MapKept.run_setObj_map _ hb, Result.andThen, setBlock]
      have e2 : (Instr.mapUpdate MT (.map (some b)) (ky x y) (.int .i64 0)).run Tryd.prog w = .ok () (setBlock w b (.map (es.push ⟨ky x y, .int .i64 0, clock⟩) (clock + 1))) := by
        simp [Instr.mapUpdate, run_underlying Tryd.underlying38, MapKept.run_getObj_map hb, mtLaw.check w false hk, h1, MapKept.run_setObj_map _ hb, Result.andThen, setBlock]
      have e3 : setBlock w b (.map es1 clock1) = setBlock w b (.map (es.push ⟨ky x y, .int .i64 0, clock⟩) (clock + 1)) := by
        have := hE.symm.trans e1
        simp only [Result.ok.injEq] at this
        exact this.2
      have e4 : w' = setBlock w b (.map es1 clock1) := by
        have := hrun.symm.trans e2
        simp only [Result.ok.injEq] at this
        rw [e3]; exact this.2
      rw [← e4]
      have hx0 : f x y = 0 := by
        have ha := hat x y kl hk
        rw [WideElems.atKey_none mtLaw F hk h2] at ha
        simp at ha
        omega
      refine ⟨_, hown, fun a c kl' hk' => ?_⟩
      by_cases hkk : kl' = kl
      · subst hkk
        obtain ⟨rfl, rfl⟩ := ky_inj hk' hk
        rw [Maps.atKey_put_same ⟨_, rfl⟩ (mtKeyed.key hk), hx0]
      · rw [Maps.atKey_put_other hkk]
        exact hat a c kl' hk'
    · have e1 : ∃ y1 z1, (Instr.mapEntry MT (.map (some b)) (ky x y)).run Tryd.prog w = .ok (.tuple #[y1, z1]) (setBlock w b (.map es clock)) := by
        have hj : es[j]? = some e0 := by simpa using h2
        have hsame : es.modify j (fun e => { e with key := ky x y }) = es := by
          apply Array.ext'
          rw [Array.toList_modify, ChangeMaps.modify_eq_set _ _ _ _ h2, ← h3]
          exact WideElems.set_self _ _ _ h2
        exact ⟨e0.val, goInt e0.born, by simp [Instr.mapEntry, run_underlying Tryd.underlying38, MapKept.run_getObj_map hb, mtLaw.check w false hk, h1, hj, h3, mtLaw.stays w hk, hsame, MapKept.run_setObj_map _ hb, Result.andThen, setBlock]⟩
      obtain ⟨y1, z1, e1⟩ := e1
      have e3 : setBlock w b (.map es1 clock1) = setBlock w b (.map es clock) := by
        have := hE.symm.trans e1
        simp only [Result.ok.injEq] at this
        exact this.2
      rw [e3]
      exact ⟨_, ⟨es, clock, heap_setBlock_same hb _, F, Nat.le_succ_of_le hsz, rfl⟩, hat⟩
  obtain ⟨es2, clock2, hrunS, hrunU⟩ := hS _ (.int .i64 v) hb1
  obtain ⟨w', hrun, hown, _⟩ := hD0.update mtKeyed Tryd.underlying38 (Nat.lt_of_succ_lt hn) hk (plainElem_int (H := Unit) Tryd.underlying3 (a := v) (i64_wf hv))
  have e4 : w' = setBlock w b (.map es2 clock2) := by
    have := hrun.symm.trans hrunU
    simp only [Result.ok.injEq] at this
    exact this.2
  rw [e4] at hown
  have hb2 := heap_setBlock_same hb (.map es2 clock2)
  have hb3 := heap_setBlock_same hb1 (.map es2 clock2)
  have g2 : (setBlock w b (.map es1 clock1)).grownBy (setBlock (setBlock w b (.map es1 clock1)) b (.map es2 clock2)) (some b) := ⟨rfl, rfl, rfl, by simp [setBlock], fun i _ hi => heap_setBlock_other hb1 _ (fun e => hi (by rw [e]))⟩
  have own2 : (setBlock (setBlock w b (.map es1 clock1)) b (.map es2 clock2)).ownsMap Tryd.prog KT (plainElem (H := Unit) Tryd.prog 3) b (n + 1) ((DataW.map ((es.toList.map (WideElems.rg Tryd.prog KT (plainElem Tryd.prog 3))).foldr DataW.insert [])).put kl (.lit (.int .i64 v))) := by
    obtain ⟨es', clock', hb', F', hs', hD'⟩ := hown
    exact ⟨es', clock', hb3.trans (hb2.symm.trans hb'), F', hs', hD'⟩
  refine ⟨v0, st, _, _, hE, M1, g1, hrunS, ⟨_, own2, fun a c kl' hk' => ?_⟩, g2⟩
  unfold updF
  by_cases hkk : kl' = kl
  · subst hkk
    obtain ⟨rfl, rfl⟩ := ky_inj hk' hk
    rw [if_pos ⟨rfl, rfl⟩, Maps.atKey_put_same ⟨_, rfl⟩ (mtKeyed.key hk)]
  · rw [if_neg (fun e => hkk (by obtain ⟨rfl, rfl⟩ := e; rw [hk'] at hk; exact (Option.some.inj hk))), Maps.atKey_put_other hkk]
    exact hat a c kl' hk'

end Go.Proofs.YtcmbilddlbejgaaDoor
