/- The contract of impl.microstates. -/
import Derived.Test.YtcmbilddlbejgaaDoorPmi
import Derived.Test.YtcmbilddlbejgaaDoorRw
import Derived.Test.YtcmbilddlbejgaaDoorPv
import Derived.Maps.AppendAt
namespace Go.Proofs.YtcmbilddlbejgaaDoor
open Go.RowKit
set_option linter.unusedVariables false

theorem infoSums : (Tryd.prog.info? 41).map (fun i => (i.zero, i.size, i.bytes)) = some (some (.agg #[.int .i64 0, .int .i64 0]), 2, 16) := by kernel_rfl
def scs (p : Int × Int) : List Value := [.int .i64 p.1, .int .i64 p.2]
def Micros (w : World) (base : Nat) (v : Value) (xs : List (Int × Int)) : Prop := SRow 41 2 scs w base v xs
def RMicros (w : World) (xs : List (Int × Int)) (e : Ending) (w' : World) : Prop := ∃ v, e = .returned v ∧ Micros w' w.heap.size v xs ∧ Below w.heap.size w w'

theorem sh_l (l : Int) (h0 : 0 ≤ l) (h2 : l ≤ 2) : (statesN l = 4 ∨ statesN l = 64 ∨ statesN l = 1024) := by
  obtain rfl | rfl | rfl : l = 0 ∨ l = 1 ∨ l = 2 := by omega
  · exact .inl rfl
  · exact .inr (.inl rfl)
  · exact .inr (.inr rfl)

set_option maxRecDepth 100000 in
set_option maxHeartbeats 2000000 in
theorem i_microstates (l n : Int) (w : World) (he : elecB l n = true) (ht : Tab w) :
    Calls Tryd.prog 19 #[.int .i64 l, .int .i64 n] w (RMicros w (microL l n (statesN l))) := by
  obtain ⟨i0, hi, hz0, hz1, hz2⟩ := info_parts infoSums
  obtain ⟨⟨l1, l2⟩, n1, n2⟩ := elecB_iff.1 he
  have HI := Lib.hid (And.intro hi (And.intro hz0 (And.intro hz1 hz2)))
  have HT := Lib.hid ht
  have ht2 := ht.2
  clear hi hz0 hz1 hz2 he ht
  have E1 : IntKind.u64.wrap (2 ^ (4 * l + 2).toNat) = ((statesN l : Nat) : Int) := by
    obtain rfl | rfl | rfl : l = 0 ∨ l = 1 ∨ l = 2 := by omega
    · rfl
    · rfl
    · rfl
  have M : statesN l ≤ 1024 := by rcases sh_l l l1 l2 with h | h | h <;> omega
  go_enter Tryd.func19, Tryd.ntmps19
  go_wp2_with (go_at_call 16; refine (i_ShellCapacity _ _).mono ?_; rintro e w' ⟨rfl, rfl⟩; rw [capI_in (by omega) (by omega)])
  clear E1
  generalize statesN l = m at *
  go_loopw [5, 13] (fun v c wr => ∃ k : Nat, k ≤ m ∧ c = .int .u64 (k : Int) ∧ Micros wr w.heap.size v (microL l n k) ∧ Below w.heap.size w wr) (fun _ c _ => m - (intOf c).toNat)
  case atStart => exact ⟨0, by omega, rfl, SRow.nil _ _, Below.refl _ _⟩
  case round =>
    obtain ⟨k, hk, rfl, hown, hB⟩ := hrel
    by_cases hlt : k < m
    · have hs := hB.size
      have hlt0 := World.ownsRow.lt hown
      have LEN := microL_len l n k
      have HO := Lib.hid hown
      have HB := Lib.hid hB
      have HL := Lib.hid hlt0
      clear hown hB hlt0
      obtain ⟨wi, rfl⟩ : ∃ wi : World, wi = wr := ⟨_, rfl⟩
      by_cases hp : ((popN k : Nat) : Int) = n
      · go_wp2_with (go_at_call 24; refine (x_OnesCount k _ (by omega)).mono ?_; rintro e w' ⟨rfl, rfl⟩)
        have P10 := pop_le (r := k) (by omega)
        have HN : Hid (u5.ownBlock ≠ some wi.heap.size) := Lib.hid (fun e => by have := HL.out _ e; omega)
        go_loopw [8] (fun c w3 => ∃ (r f : Nat) (o s : Int), c = .int .u64 (r : Int) ∧ r < 1024 ∧ popN r ≤ f ∧ f ≤ 10 ∧ (-10 * (10 - (f : Int)) ≤ o ∧ o ≤ 10 * (10 - (f : Int))) ∧ (-10 * (10 - (f : Int)) ≤ s ∧ s ≤ 10 * (10 - (f : Int))) ∧ sumK l f r o s = micro l k ∧ Blk w3 wi.heap.size #[.int .i64 o, .int .i64 s] ∧ Below wi.heap.size wi w3) (fun c _ => (intOf c).toNat)
        case atStart => exact ⟨k, 10, 0, 0, rfl, by omega, P10, by omega, by omega, by omega, rfl, blk_new (by simp), bl_alloc (Below.refl _ _) _⟩
        case round =>
          obtain ⟨r, f, o, s, rfl, hr, hf, f10, ho, hs2, hsum, hK, hb⟩ := hrel
          have hs3 := hb.size
          have hK1 := hK.lt
          obtain ⟨c0, c1, g0, g1⟩ := blk2 hK
          have HK := Lib.hid hK
          have Hb := Lib.hid hb
          have HS := Lib.hid hsum
          clear hK hb hsum
          obtain ⟨wj, rfl⟩ : ∃ wj : World, wj = wr := ⟨_, rfl⟩
          by_cases hr0 : 1 ≤ r
          · obtain ⟨q1, q2, q3⟩ := clr_ok hr hr0
            have CB := clr_bits hr hr0
            obtain ⟨f', rfl⟩ : ∃ f' : Nat, f = f' + 1 := ⟨f - 1, by omega⟩
            have HS2 := Lib.hid ((sumK_step l f' r o s hr0).symm.trans HS.out)
            have CT := fun (w0 : World) (h0 : Tab w0) => x_TrailingZeros r w0 (by omega) h0
            generalize Lib.ctz 64 r = z at *
            generalize clr r = r' at *
            have z9 : (z : Int) < 10 := by omega
            have z0 : 0 ≤ (z : Int) := by omega
            have TT : Hid (Tab wj) := Lib.hid ((HT.out.below HB.out).below Hb.out)
            go_wp2_with (go_at_call 25; refine (CT _ TT.out).mono ?_; rintro e w' ⟨rfl, rfl⟩)
            go_roundw
            case rel => exact ⟨r', f', o + ((z : Int) / 2 - l), s + ((z : Int) % 2 * 2 - 1), rfl, by omega, by omega, by omega, by omega, by omega, HS2.out, blk_set (blk_set HK.out 0 _) 1 _, bl_set (bl_set Hb.out (by simp) _) (by simp) _⟩
            case measure => simp [intOf]; omega
          · obtain rfl : r = 0 := by omega
            have e0 : micro l k = (o, s) := by rw [← HS.out, sumK_zero]
            have hO : Micros wj w.heap.size u5 (microL l n k) := SRow.kept HO.out Hb.out
            have hB2 : Below w.heap.size w wj := btr HB.out Hb.out
            have hs4 := hB2.size
            generalize hxs : microL l n k = xs at hO LEN
            have HX := Lib.hid hxs
            have HB2 := Lib.hid hB2
            clear hxs hB2
            unfold Micros SRow at hO
            obtain ⟨hi, hz0, hz1, hz2⟩ := HI.out
            go_wp2_with (at_builtin; refine wpList_append_own_at _ rfl _ _ 48 rfl w.heap.size 41 i0 (.agg #[.int .i64 0, .int .i64 0]) 2 16 Tryd.underlying48 hi hz0 hz1 hz2 rfl (by decide) _ _ _ rfl (hO.alloc _) ⟨wj.heap.size, 0, none⟩ 1 1 (scs (o, s)) rfl rfl ?c1 ?c2 ?c3 ?c4 ?c5 ?_)
            case c1 => exact cells_new2 _ _ _ _
            case c2 => intro u hu; simp [scs] at hu; rcases hu with rfl | rfl <;> rfl
            case c3 => unfold maxLen; omega
            case c4 => omega
            case c5 => simp; omega
            intro v' w3 hown' hgrow _ hat
            have A1 : Micros w3 w.heap.size v' (microL l n (k + 1)) := by rw [microL_yes hp, HX.out, e0]; exact SRow.app hown'
            have A2 : Below w.heap.size w w3 := app_below HB2.out hO hgrow (Nat.le_refl _) hs4
            have H1 := Lib.hid A1
            have H2 := Lib.hid A2
            clear A1 A2 hown' hgrow hat hO
            go_wp2_with fail
            go_roundw
            case rel => exact ⟨k + 1, by omega, by go_num, H1.out, H2.out⟩
            case measure => simp [intOf]; omega
      · go_wp2_with (go_at_call 24; refine (x_OnesCount k _ (by omega)).mono ?_; rintro e w' ⟨rfl, rfl⟩)
        go_roundw
        case rel => exact ⟨k + 1, by omega, by go_num, by rw [microL_no hp]; exact HO.out, HB.out⟩
        case measure => simp [intOf]; omega
    · obtain rfl : k = m := by omega
      go_wp2_with fail
      go_ret
      exact ⟨_, rfl, hown, hB⟩

end Go.Proofs.YtcmbilddlbejgaaDoor
