/- Plain functions on couplings: sums of binomial coefficients, roots, coupling coefficients; and what is reckoned over all of them. -/
import Derived.Test.YtcmbilddlbejgaaDoorPc
import Derived.Test.YtcmbilddlbejgaaDoorPq
namespace Go.Proofs.YtcmbilddlbejgaaDoor
open Go.RowKit
set_option linter.unusedVariables false

/-- The numbers lo .. hi. -/
def rangeI (lo hi : Int) : List Int := (List.range (hi - lo + 1).toNat).map (fun i : Nat => lo + (i : Int))
theorem mem_rangeI {lo hi x : Int} (h1 : lo ≤ x) (h2 : x ≤ hi) : x ∈ rangeI lo hi := by
  unfold rangeI
  rw [List.mem_map]
  exact ⟨(x - lo).toNat, by rw [List.mem_range]; omega, by omega⟩

/-- m is a projection of j. -/
def hasB (j m : Int) : Bool := inB j 0 24 && inB m (-j) j && decide ((j + m) % 2 = 0)
theorem hasB_iff {j m : Int} : hasB j m = true ↔ (0 ≤ j ∧ j ≤ 24) ∧ (-j ≤ m ∧ m ≤ j) ∧ (j + m) % 2 = 0 := by
  simp [hasB, inB, and_assoc]

/-- Three angular momenta that are coupled. -/
def tdB (a b c : Int) : Bool := inB a 0 6 && inB b 0 6 && inB c 0 6 && triB a b c
theorem tdB_iff {a b c : Int} : tdB a b c = true ↔ (0 ≤ a ∧ a ≤ 6) ∧ (0 ≤ b ∧ b ≤ 6) ∧ (0 ≤ c ∧ c ≤ 6) ∧ (a + b + c) % 2 = 0 ∧ a ≤ b + c ∧ b ≤ a + c ∧ c ≤ a + b := by
  simp [tdB, triB, inB]
  omega

/-- Two projections can be coupled. -/
def cpOk (a b c m n : Int) : Bool := tdB a b c && hasB a m && hasB b n
theorem cpOk_iff {a b c m n : Int} : cpOk a b c m n = true ↔ tdB a b c = true ∧ hasB a m = true ∧ hasB b n = true := by
  simp [cpOk, and_assoc]

def sgnK (k : Nat) : Int := if k % 2 = 0 then 1 else -1
theorem sgnK_succ (k : Nat) : sgnK (k + 1) = -sgnK k := by
  unfold sgnK; split <;> split <;> omega
theorem sgnK_bd (k : Nat) : -1 ≤ sgnK k ∧ sgnK k ≤ 1 := by unfold sgnK; split <;> omega

def cpX (a b c : Int) : Int := (a + b - c) / 2
/-- The summand of a coupling. -/
def cpT (a b c m n : Int) (k : Nat) : Int :=
  sgnK k * chooseI ((a + b - c) / 2) (k : Int) * chooseI ((a - b + c) / 2) ((a - m) / 2 - (k : Int)) * chooseI ((b - a + c) / 2) ((b + n) / 2 - (k : Int))
def cpS (a b c m n : Int) : Nat → Int
  | 0 => 0
  | k + 1 => cpS a b c m n k + cpT a b c m n k
/-- What CoupleSum returns. -/
def coupleI (a b c m n : Int) : Int := if (cpOk a b c m n && hasB c (m + n)) = true then cpS a b c m n ((a + b - c) / 2 + 1).toNat else 0

theorem cpT_bd {a b c m n : Int} (k : Nat) (h : tdB a b c = true) :
    (-64 ≤ sgnK k * chooseI ((a + b - c) / 2) (k : Int) ∧ sgnK k * chooseI ((a + b - c) / 2) (k : Int) ≤ 64) ∧
    (-4096 ≤ sgnK k * chooseI ((a + b - c) / 2) (k : Int) * chooseI ((a - b + c) / 2) ((a - m) / 2 - (k : Int)) ∧ sgnK k * chooseI ((a + b - c) / 2) (k : Int) * chooseI ((a - b + c) / 2) ((a - m) / 2 - (k : Int)) ≤ 4096) ∧
    (-262144 ≤ cpT a b c m n k ∧ cpT a b c m n k ≤ 262144) := by
  have hh := tdB_iff.1 h
  obtain ⟨a1, a2⟩ := chooseI_bd (n := (a + b - c) / 2) (k := (k : Int)) 6 (by omega) (by omega) (by omega)
  obtain ⟨b1, b2⟩ := chooseI_bd (n := (a - b + c) / 2) (k := (a - m) / 2 - (k : Int)) 6 (by omega) (by omega) (by omega)
  obtain ⟨c1, c2⟩ := chooseI_bd (n := (b - a + c) / 2) (k := (b + n) / 2 - (k : Int)) 6 (by omega) (by omega) (by omega)
  have s := sgnK_bd k
  have p1 := mul_bd (A := 1) (B := 64) s.1 s.2 (show -64 ≤ chooseI ((a + b - c) / 2) (k : Int) by omega) a2
  have p2 := mul_bd (A := 64) (B := 64) p1.1 p1.2 (show -64 ≤ chooseI ((a - b + c) / 2) ((a - m) / 2 - (k : Int)) by omega) b2
  have p3 := mul_bd (A := 4096) (B := 64) p2.1 p2.2 (show -64 ≤ chooseI ((b - a + c) / 2) ((b + n) / 2 - (k : Int)) by omega) c2
  exact ⟨p1, p2, p3⟩

/-- The summand without its sign. -/
def cpU (a b c m n : Int) (k : Nat) : Int :=
  chooseI ((a + b - c) / 2) (k : Int) * chooseI ((a - b + c) / 2) ((a - m) / 2 - (k : Int)) * chooseI ((b - a + c) / 2) ((b + n) / 2 - (k : Int))
theorem cpU_bd {a b c m n : Int} (k : Nat) (h : tdB a b c = true) :
    (0 ≤ chooseI ((a + b - c) / 2) (k : Int) * chooseI ((a - b + c) / 2) ((a - m) / 2 - (k : Int)) ∧ chooseI ((a + b - c) / 2) (k : Int) * chooseI ((a - b + c) / 2) ((a - m) / 2 - (k : Int)) ≤ 4096) ∧
    (0 ≤ cpU a b c m n k ∧ cpU a b c m n k ≤ 262144) := by
  have hh := tdB_iff.1 h
  obtain ⟨a1, a2⟩ := chooseI_bd (n := (a + b - c) / 2) (k := (k : Int)) 6 (by omega) (by omega) (by omega)
  obtain ⟨b1, b2⟩ := chooseI_bd (n := (a - b + c) / 2) (k := (a - m) / 2 - (k : Int)) 6 (by omega) (by omega) (by omega)
  obtain ⟨c1, c2⟩ := chooseI_bd (n := (b - a + c) / 2) (k := (b + n) / 2 - (k : Int)) 6 (by omega) (by omega) (by omega)
  have p2 := mul_bd (A := 64) (B := 64) (show -64 ≤ chooseI ((a + b - c) / 2) (k : Int) by omega) a2 (show -64 ≤ chooseI ((a - b + c) / 2) ((a - m) / 2 - (k : Int)) by omega) b2
  have p3 := mul_bd (A := 4096) (B := 64) p2.1 p2.2 (show -64 ≤ chooseI ((b - a + c) / 2) ((b + n) / 2 - (k : Int)) by omega) c2
  have q2 := Int.mul_nonneg a1 b1
  exact ⟨⟨q2, p2.2⟩, Int.mul_nonneg q2 c1, p3.2⟩
theorem cpT_U (a b c m n : Int) (k : Nat) : cpT a b c m n k = if k % 2 = 1 then 0 - cpU a b c m n k else cpU a b c m n k := by
  unfold cpT cpU sgnK
  split
  · rw [if_neg (by omega), Int.one_mul]
  · rw [if_pos (by omega), Int.neg_mul, Int.neg_mul, Int.neg_mul, Int.one_mul, Int.zero_sub]

theorem cpS_bd {a b c m n : Int} (h : tdB a b c = true) : ∀ k : Nat, -(262144 * (k : Int)) ≤ cpS a b c m n k ∧ cpS a b c m n k ≤ 262144 * (k : Int)
  | 0 => by simp [cpS]
  | k + 1 => by
    have h1 := cpS_bd (m := m) (n := n) h k
    have h2 := (cpT_bd (m := m) (n := n) k h).2.2
    show -(262144 * ((k + 1 : Nat) : Int)) ≤ cpS a b c m n k + cpT a b c m n k ∧ cpS a b c m n k + cpT a b c m n k ≤ 262144 * ((k + 1 : Nat) : Int)
    omega

theorem coupleI_bd (a b c m n : Int) : -2000000 ≤ coupleI a b c m n ∧ coupleI a b c m n ≤ 2000000 := by
  unfold coupleI
  split
  · rename_i h
    rw [Bool.and_eq_true] at h
    have ht := (cpOk_iff.1 h.1).1
    have hh := tdB_iff.1 ht
    have := cpS_bd (m := m) (n := n) ht ((a + b - c) / 2 + 1).toNat
    omega
  · omega

/-- The sign of a number. -/
def sgnI (n : Int) : Int := if n < 0 then -1 else if 0 < n then 1 else 0

def bigM : Int := 4000000000000000000
/-- RootOf: sign, numerator, denominator, and whether there is such a root. -/
def rootG (n num den : Int) : Bool := inB n (-1000000000) 1000000000 && inB num 1 4000000000000000000 && inB den 1 4000000000000000000 && (decide (n = 0) || decide (num ≤ 4000000000000000000 / (n * n)))
def rootOf (n num den : Int) : Int × Int × Int × Bool :=
  if rootG n num den = true then (if (ratOf (n * n * num) den).2.2 = true then (sgnI n, (ratOf (n * n * num) den).1, (ratOf (n * n * num) den).2.1, true) else (0, 0, 0, false)) else (0, 0, 0, false)

theorem ratOf_no2 {n d : Int} {N D : Int} (h : ratOf n d = (N, D, false)) : N = 0 ∧ D = 0 := by
  unfold ratOf mkR at h
  split at h
  · split at h
    · simp at h
    · simp at h; omega
  · simp at h; omega

/-- Such a result as a value. -/
def rtv (x : Int × Int × Int × Bool) : Value := .tuple #[.agg #[.int .i64 x.1, .int .i64 x.2.1, .int .i64 x.2.2.1], .bool x.2.2.2]

def clN (a b c : Int) : Int := chooseI a ((a + b - c) / 2) * chooseI b ((a + b - c) / 2)
def clD (a b c m n : Int) : Int := chooseI ((a + b + c) / 2 + 1) ((a + b - c) / 2) * chooseI a ((a - m) / 2) * chooseI b ((b - n) / 2) * chooseI c ((c - m - n) / 2)
/-- What Clebsch returns. -/
def clebI (a b c m n : Int) : Int × Int × Int × Bool :=
  if cpOk a b c m n = true then (if hasB c (m + n) = true then rootOf (coupleI a b c m n) (clN a b c) (clD a b c m n) else (0, 0, 1, true)) else (0, 0, 0, false)

/-- What holds for all couplings. -/
def all3 (P : Int → Int → Int → Bool) : Bool := (rangeI 0 6).all fun a => (rangeI 0 6).all fun b => (rangeI 0 6).all fun c => !tdB a b c || P a b c
theorem all3_of {P : Int → Int → Int → Bool} (h : all3 P = true) {a b c : Int} (ok : tdB a b c = true) : P a b c = true := by
  have hh := tdB_iff.1 ok
  simp only [all3, List.all_eq_true] at h
  have := h a (mem_rangeI (by omega) (by omega)) b (mem_rangeI (by omega) (by omega)) c (mem_rangeI (by omega) (by omega))
  rw [ok] at this
  simpa using this
def all5 (P : Int → Int → Int → Int → Int → Bool) : Bool := all3 fun a b c => (rangeI (-a) a).all fun m => !hasB a m || (rangeI (-b) b).all fun n => !hasB b n || P a b c m n
theorem all5_of {P : Int → Int → Int → Int → Int → Bool} (h : all5 P = true) {a b c m n : Int} (ok : cpOk a b c m n = true) : P a b c m n = true := by
  obtain ⟨o1, o2, o3⟩ := cpOk_iff.1 ok
  have h1 := all3_of h o1
  rw [List.all_eq_true] at h1
  have m2 := hasB_iff.1 o2
  have n2 := hasB_iff.1 o3
  have h2 := h1 m (mem_rangeI (by omega) (by omega))
  rw [o2] at h2
  simp only [Bool.not_true, Bool.false_or, List.all_eq_true] at h2
  have h3 := h2 n (mem_rangeI (by omega) (by omega))
  rw [o3] at h3
  simpa using h3

end Go.Proofs.YtcmbilddlbejgaaDoor
