/- The reader of codes: what it holds in memory; contracts of l6Open and pick. -/
import Derived.Test.YtcmbilddlbejgaaDoorA
import Derived.Deep.QuietTactic
import Derived.BigQuiet
namespace Go.Proofs.YtcmbilddlbejgaaDoor
open Go.RowKit

theorem xor_i64 (a b : Nat) (ha : a < 4611686018427387904) (hb : b < 4611686018427387904) : bits .xor .i64 (a : Int) (b : Int) = ((a ^^^ b : Nat) : Int) := by
  have hx : a ^^^ b < 2 ^ 62 := Nat.xor_lt_two_pow (by omega) (by omega)
  have h1 : (BitVec.ofInt 64 (a : Int)).toNat = a := by
    rw [BitVec.ofInt_natCast, BitVec.toNat_ofNat]; exact Nat.mod_eq_of_lt (by omega)
  have h2 : (BitVec.ofInt 64 (b : Int)).toNat = b := by
    rw [BitVec.ofInt_natCast, BitVec.toNat_ofNat]; exact Nat.mod_eq_of_lt (by omega)
  show IntKind.i64.wrap ((BitVec.ofInt 64 (a : Int) ^^^ BitVec.ofInt 64 (b : Int)).toNat : Int) = _
  rw [BitVec.toNat_xor, h1, h2]
  generalize a ^^^ b = x at hx ⊢
  simp [IntKind.wrap, IntKind.bits, IntKind.signed]
  omega

/-- A slice of at most 2000 bytes: empty, or in a block that is there and is not the reader's. -/
def Bytes (w : World) (R : Nat) (a : Option Addr) (len : Nat) : Prop :=
  len ≤ 2000 ∧ (0 < len → ∃ b off, a = some ⟨b, off, none⟩ ∧ b < R ∧ ∀ i, i < len → ∃ z : Int, w.cell? ⟨b, off + i, none⟩ = some (.int .u8 z) ∧ 0 ≤ z ∧ z ≤ 255)

/-- The reader lies at block R; p bytes have been asked for. -/
def Rd (w : World) (R p : Nat) : Prop :=
  ∃ a len cap, w.heap[R]? = some (.cells #[.slice a len cap, .int .i64 (p : Int)] 46 (0, 0)) ∧ Bytes w R a len

/-- What pick leaves: a number below n; the reader, one further; of all other memory nothing has changed. -/
def RPick (w : World) (R p : Nat) (n : Int) (e : Ending) (w' : World) : Prop :=
  ∃ x : Int, e = .returned (.int .i64 x) ∧ 0 ≤ x ∧ (1 ≤ n → x < n) ∧ Rd w' R (p + 1) ∧ w.grownBy w' (some R)

theorem xor_pos (X : Int) (h1 : 0 ≤ X) (h2 : X < 4611686018427387904) : 0 ≤ bits .xor .i64 X (X / 64) := by
  obtain ⟨n, rfl⟩ := Int.eq_ofNat_of_zero_le h1
  have e : ((n : Int) / 64) = ((n / 64 : Nat) : Int) := by omega
  rw [e, xor_i64 n (n / 64) (by omega) (by omega)]
  omega

theorem only_drewN {a w : World} {row : Option Nat} (h : a.grownBy w row) (n : Nat) : a.grownBy (w.drewN n) row := ⟨h.os, h.tape, h.output, h.size, h.block⟩
theorem rd_drewN {w : World} {R p : Nat} (h : Rd w R p) (n : Nat) : Rd (w.drewN n) R p := h
theorem below_drewN {B : Nat} {a w : World} (h : Below B a w) (n : Nat) : Below B a (w.drewN n) := ⟨h.os, h.tape, h.output, h.size, h.block⟩

/-- After the counter has been raised. -/
theorem rd_next {w : World} {R p len cap : Nat} {a : Option Addr} (hR : w.heap[R]? = some (.cells #[.slice a len cap, .int .i64 (p : Int)] 46 (0, 0)))
    (hB : Bytes w R a len) : Rd (w.setCell ⟨R, 1, none⟩ (.int .i64 ((p : Int) + 1))) R (p + 1) ∧ w.grownBy (w.setCell ⟨R, 1, none⟩ (.int .i64 ((p : Int) + 1))) (some R) := by
  refine ⟨⟨a, len, cap, ?_, hB.1, ?_⟩, ⟨rfl, rfl, rfl, by simp [World.setCell], fun k _ hne => Below.heap_setCell _ _ _ _ (fun h => hne (by rw [h]))⟩⟩
  · simp [World.setCell, Array.getElem?_modify, hR]
  · intro h
    obtain ⟨b, off, h1, h2, h4⟩ := hB.2 h
    refine ⟨b, off, h1, h2, fun i hi => ?_⟩
    obtain ⟨z, hz, hz2⟩ := h4 i hi
    refine ⟨z, ?_, hz2⟩
    rw [← hz]
    exact World.cell?_of_block (w := w) (Below.heap_setCell _ _ _ _ (Nat.ne_of_lt h2))

set_option maxHeartbeats 400000 in
theorem s_pick (R p : Nat) (n : Int) (w : World) (hr : Rd w R p) (hp : p ≤ 1000000) (hn : n ≤ 1000000) :
    Calls Tryd.prog 15 #[.pointer (some ⟨R, 0, none⟩), .int .i64 n] w (RPick w R p n) := by
  obtain ⟨a, len, cap, hR, hB⟩ := hr
  have c0 : w.cell? ⟨R, 0, none⟩ = some (.slice a len cap) := by simp [World.cell?, hR]
  have c1 : w.cell? ⟨R, 1, none⟩ = some (.int .i64 (p : Int)) := by simp [World.cell?, hR]
  have f1 : w.frozen? ⟨R, 1, none⟩ = false := by simp [World.frozen?, hR]
  have hl := hB.1
  have N := Lib.hid (rd_next hR hB)
  have HB := Lib.hid hB
  clear hR hB
  by_cases h1 : n < 1
  · go_enter Tryd.func15, Tryd.ntmps15
    go_wp2
    go_ret
    exact ⟨0, rfl, by omega, by omega, N.out.1, N.out.2⟩
  by_cases h2 : len = 0
  · subst h2
    go_enter Tryd.func15, Tryd.ntmps15
    go_wp2
    go_ret
    exact ⟨0, rfl, by omega, by omega, N.out.1, N.out.2⟩
  obtain ⟨b, off, rfl, hbR0, hc⟩ := HB.out.2 (by omega)
  have hbR : b ≠ R := by omega
  clear hbR0
  have h2' : ((len : Int) == 0) = false := by simp; omega
  by_cases h3 : p < len
  · obtain ⟨z, hcp, hz1, hz2⟩ := hc p h3
    have HC := Lib.hid hc
    clear hc
    go_enter Tryd.func15, Tryd.ntmps15
    go_wp2
    go_ret
    refine ⟨_, rfl, ?_, fun _ => ?_, N.out.1, N.out.2⟩
    · exact Int.emod_nonneg _ (by omega)
    · exact Int.emod_lt_of_pos _ (by omega)
  obtain ⟨y, hy, hy1, hy2⟩ := hc (p % len) (Nat.mod_lt _ (by omega))
  obtain ⟨z, hz, hz1, hz2⟩ := hc ((p * 7 + 3) % len) (Nat.mod_lt _ (by omega))
  have HC := Lib.hid hc
  clear hc
  have l0 : 0 < (len : Int) := by omega
  have i1 : (p : Int) % (len : Int) < (len : Int) := Int.emod_lt_of_pos _ l0
  have i2 : 0 ≤ (p : Int) % (len : Int) := Int.emod_nonneg _ (by omega)
  have i3 : ((p : Int) * 7 + 3) % (len : Int) < (len : Int) := Int.emod_lt_of_pos _ l0
  have i4 : 0 ≤ ((p : Int) * 7 + 3) % (len : Int) := Int.emod_nonneg _ (by omega)
  have i5 : 0 ≤ (p : Int) / (len : Int) := Int.ediv_nonneg (by omega) (by omega)
  have i6 : (p : Int) / (len : Int) ≤ 1000000 := Int.le_trans (Int.ediv_le_self _ (by omega)) (by omega)
  go_enter Tryd.func15, Tryd.ntmps15
  go_wp2
  go_quiet (fail)
  go_wp2
  go_ret
  refine ⟨_, rfl, ?_, fun _ => ?_, rd_drewN N.out.1 _, only_drewN N.out.2 _⟩
  · exact Int.tmod_nonneg n (xor_pos _ (by omega) (by omega))
  · exact Int.tmod_lt_of_pos _ (by omega)

/-- What l6Open leaves. -/
def ROpen (w : World) (e : Ending) (w' : World) : Prop := e = .returned (.pointer (some ⟨w.heap.size, 0, none⟩)) ∧ Rd w' w.heap.size 0 ∧ Below w.heap.size w w'

/-- The code: bytes that came in. -/
def Code (w : World) (a : Option Addr) (len cap : Nat) : Prop :=
  len ≤ cap ∧ (0 < len → ∃ b off, a = some ⟨b, off, none⟩ ∧ b < w.heap.size ∧ ∀ i, i < len → ∃ z : Int, w.cell? ⟨b, off + i, none⟩ = some (.int .u8 z) ∧ 0 ≤ z ∧ z ≤ 255)

theorem rd_new {w : World} {a : Option Addr} {len cap k : Nat} (h : Code w a len cap) (hk : k ≤ len) (h2 : k ≤ 2000) : ROpen w (.returned (.pointer (some ⟨w.heap.size, 0, none⟩))) (w.alloc (.cells #[.slice a k cap, .int .i64 0] 46)) := by
  refine ⟨rfl, ⟨a, k, cap, ?_, h2, fun hp => ?_⟩, (Below.refl _ _).alloc (Nat.le_refl _) _⟩
  · show (w.heap.push _)[w.heap.size]? = _
    rw [Array.getElem?_push, if_pos rfl]; rfl
  · obtain ⟨b, off, ha, hb, hc⟩ := h.2 (by omega)
    refine ⟨b, off, ha, hb, fun i hi => ?_⟩
    obtain ⟨z, hz, hz2⟩ := hc i (by omega)
    refine ⟨z, ?_, hz2⟩
    rw [World.cell?_alloc_past _ _ _ hb]; exact hz

set_option maxHeartbeats 400000 in
theorem s_l6Open (a : Option Addr) (len cap : Nat) (w : World) (h : Code w a len cap) (hl : len ≤ 9223372036854775807) (hc : cap ≤ 9223372036854775807) :
    Calls Tryd.prog 10 #[.slice a len cap] w (ROpen w) := by
  have HC := Lib.hid h
  have hcl := h.1
  clear h
  by_cases h1 : 2000 < len
  · obtain ⟨b, off, rfl, hb, hcell⟩ := HC.out.2 (by omega)
    have HD := Lib.hid hcell
    clear hcell
    go_enter Tryd.func10, Tryd.ntmps10
    go_wp2
    go_ret
    exact rd_new HC.out (by omega) (by omega)
  · go_enter Tryd.func10, Tryd.ntmps10
    go_wp2
    go_ret
    exact rd_new HC.out (by omega) (by omega)

end Go.Proofs.YtcmbilddlbejgaaDoor
