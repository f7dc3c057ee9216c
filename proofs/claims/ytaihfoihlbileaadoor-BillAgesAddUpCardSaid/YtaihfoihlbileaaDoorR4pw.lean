/- The program's amounts (numbers of digits to the base 2 to the power of 32, divided by ten as long as that goes): plain laws, no program in sight. -/
import Derived.Test.YtaihfoihlbileaaDoorR4x
namespace Go.Proofs.YtaihfoihlbileaaDoor.R4
open Go Go.Proofs Go.RowKit YtaihfoihlbileaaDoorW.PrintWords

theorem wz0 : wrap64 0 = 0 := by unfold wrap64; omega
theorem wz1 : wrap64 1 = 1 := by unfold wrap64; omega
theorem wzm : wrap64 (-1) = -1 := by unfold wrap64; omega
theorem wz2 : wrap64 2 = 2 := by unfold wrap64; omega
theorem u32_w {n : Int} (h0 : 0 ≤ n) (h1 : n < 4294967296) : IntKind.u32.wrap n = n := by rw [IntKind.wrap_u32]; omega
theorem u64_e (n : Int) : IntKind.u64.wrap n = n % 18446744073709551616 := by simp [IntKind.wrap, IntKind.bits, IntKind.signed]
theorem u64_w {n : Int} (h0 : 0 ≤ n) (h1 : n < 18446744073709551616) : IntKind.u64.wrap n = n := by rw [u64_e]; omega

def tr1 (a : Int) : List Int := if a = 0 then [] else [a]
def tr2 (a b : Int) : List Int := if b = 0 then tr1 a else [a, b]
/-- the digits of a number below 2 to the power of 64 -/
def ew (n : Int) : List Int := tr2 (n % 4294967296) (n / 4294967296)
theorem trim0 (k : Nat) : whole_trimmed.f (k + 1) [] = some [] := by simp [whole_trimmed.f, whole_trimmed.l0]
theorem trim1 (k : Nat) (a : Int) : whole_trimmed.f (k + 2) [a] = some (tr1 a) := by
  unfold tr1
  by_cases h : a = 0
  · simp [whole_trimmed.f, whole_trimmed.l0, rd, wz0, h]
  · simp [whole_trimmed.f, whole_trimmed.l0, rd, wz0, h]
theorem trim2 (k : Nat) (a b : Int) : whole_trimmed.f (k + 3) [a, b] = some (tr2 a b) := by
  unfold tr2
  by_cases h : b = 0
  · rw [if_pos h, ← trim1 k a]
    simp [whole_trimmed.f, whole_trimmed.l0, rd, wz1, h]
  · simp [whole_trimmed.f, whole_trimmed.l0, rd, wz1, h]
theorem made_ff (k : Nat) {l r : List Int} (h : whole_trimmed.f k l = some r) : whole_made.f k false l = some (false, r) := by
  unfold whole_made.f
  rw [h]
  simp
theorem Of_pos (k : Nat) {n : Int} (h0 : 0 ≤ n) (h1 : n < 9223372036854775808) : whole_Of.f (k + 3) n = some (false, ew n) := by
  unfold whole_Of.f
  rw [if_neg (by omega), u64_w h0 (by omega), show n / 4294967296 % 4294967296 = n / 4294967296 by omega, made_ff _ (trim2 k _ _)]
  rfl

/-! ### one step of the division by ten -/
theorem sum_self (k : Nat) {r : Int} (h0 : 0 ≤ r) (h1 : r < 10) : ∃ t, whole_sum.f (k + 2) (tr1 r) (tr1 r) = some (2 * r :: t) ∧ (t = [] ∨ t = [0]) := by
  by_cases h : r = 0
  · subst h
    refine ⟨[], ?_, Or.inl rfl⟩
    simp [tr1, whole_sum.f, whole_sum_fo.f, whole_sum_fo.l0, wz1]
  · refine ⟨[0], ?_, Or.inr rfl⟩
    have e2 : r % 18446744073709551616 = r := by omega
    have e3 : (r + r) % 18446744073709551616 = 2 * r := by omega
    have e4 : 2 * r % 4294967296 = 2 * r := by omega
    have e5 : 2 * r / 4294967296 % 4294967296 = 0 := by omega
    simp [tr1, h, whole_sum.f, whole_sum_fo.f, whole_sum_fo.l0, wz1, wz2, rd, u64_e, e2, e3, e4, e5]
theorem trim_t (k : Nat) {v : Int} {t : List Int} (ht : t = [] ∨ t = [0]) : whole_trimmed.f (k + 3) (v :: t) = some (tr1 v) := by
  rcases ht with rfl | rfl
  · exact trim1 (k + 1) v
  · rw [trim2 k v 0]; rfl
theorem cmp_ten (k : Nat) {v : Int} (h0 : 0 ≤ v) : ∃ c, whole_compare.f (k + 2) (tr1 v) [10] = some c ∧ (c ≥ 0 ↔ v ≥ 10) := by
  unfold tr1
  by_cases h : v = 0
  · refine ⟨-1, ?_, by omega⟩
    simp [whole_compare.f, h, wzm]
  · by_cases h1 : v = 10
    · refine ⟨0, ?_, by omega⟩
      simp [whole_compare.f, whole_compare.l0, h1, wz0, wzm, rd]
    · by_cases h2 : v < 10
      · refine ⟨-1, ?_, by omega⟩
        simp [whole_compare.f, whole_compare.l0, h, h1, h2, wz0, rd]
      · refine ⟨1, ?_, by omega⟩
        simp [whole_compare.f, whole_compare.l0, h, h1, h2, wz0, rd]
theorem less_ten (k : Nat) {v : Int} (h0 : 10 ≤ v) (h1 : v < 20) : whole_less.f (k + 4) (tr1 v) [10] = some (tr1 (v - 10)) := by
  have h : ¬ v = 0 := by omega
  have e2 : (v - 10) % 18446744073709551616 = v - 10 := by omega
  have e3 : (v - 10) % 4294967296 = v - 10 := by omega
  have e0 : v % 18446744073709551616 = v := by omega
  have ht := trim1 k (v - 10)
  rw [show tr1 v = [v] by simp [tr1, h]]
  simp [whole_less.f, whole_less.l0, rd, u64_e, e0, e2, e3, wz1, ht]

/-! ### the bit read and the bit set -/
def wv : List Int → Int
  | [] => 0
  | d :: r => d + 4294967296 * wv r
def Wd (l : List Int) : Prop := ∀ d ∈ l, 0 ≤ d ∧ d < 4294967296
theorem pw_split {i j : Nat} (h : i ≤ j) : (2 : Int) ^ j = 2 ^ i * 2 ^ (j - i) := by rw [← Int.pow_add]; congr 1; omega
theorem p32 : (4294967296 : Int) = 2 ^ 32 := by decide
theorem pw_pos (i : Nat) : (0 : Int) < 2 ^ i := Int.pow_pos (by omega)
theorem pw_s (i : Nat) : (2 : Int) ^ (i + 1) = 2 * 2 ^ i := by rw [Int.pow_succ]; omega
theorem bit_low {X : Int} {j : Nat} (h : j < 32) : X % 4294967296 / 2 ^ j % 2 = X / 2 ^ j % 2 := by
  have h1 : X = X % 4294967296 + 2 ^ j * (2 * (2 ^ (31 - j) * (X / 4294967296))) := by
    have : (2 : Int) ^ j * (2 * (2 ^ (31 - j) * (X / 4294967296))) = 4294967296 * (X / 4294967296) := by
      rw [p32, pw_split (show j ≤ 32 by omega), show 32 - j = (31 - j) + 1 by omega, pw_s]
      simp only [Int.mul_assoc, Int.mul_left_comm]
    rw [this]
    omega
  have h2 : X / 2 ^ j = X % 4294967296 / 2 ^ j + 2 * (2 ^ (31 - j) * (X / 4294967296)) := by
    conv => lhs; rw [h1]
    rw [Int.add_mul_ediv_left _ _ (Int.ne_of_gt (pw_pos j))]
  rw [h2]
  omega
theorem room {a : Int} {j : Nat} (h : j < 32) (h1 : a < 4294967296) (hm : a % 2 ^ (j + 1) = 0) : a + 2 ^ j < 4294967296 := by
  have e : (4294967296 : Int) = 2 ^ (j + 1) * 2 ^ (31 - j) := by rw [p32, pw_split (show j + 1 ≤ 32 by omega), show 32 - (j + 1) = 31 - j by omega]
  have ha : a = 2 ^ (j + 1) * (a / 2 ^ (j + 1)) := by
    have := Int.mul_ediv_add_emod a (2 ^ (j + 1))
    omega
  have hlt : a / 2 ^ (j + 1) < 2 ^ (31 - j) := by
    apply Int.lt_of_mul_lt_mul_left (a := 2 ^ (j + 1)) _ (Int.le_of_lt (pw_pos _))
    rw [← ha, ← e]
    exact h1
  have hle : 2 ^ (j + 1) * (a / 2 ^ (j + 1) + 1) ≤ 2 ^ (j + 1) * 2 ^ (31 - j) := Int.mul_le_mul_of_nonneg_left (by omega) (Int.le_of_lt (pw_pos _))
  rw [← e, Int.mul_add, ← ha, Int.mul_one, pw_s] at hle
  have := pw_pos j
  omega
theorem shl1 {j : Nat} (h : j < 32) : shl .u32 1 (j : Int) = 2 ^ j := by
  unfold shl
  rw [Int.toNat_natCast, show min j IntKind.u32.bits = j from Nat.min_eq_left (by show j ≤ 32; omega), Int.one_mul]
  apply u32_w (Int.le_of_lt (pw_pos j))
  rw [p32, pw_split (show j + 1 ≤ 32 by omega), pw_s]
  have := pw_pos (32 - (j + 1))
  have := pw_pos j
  have h2 : (2 * 2 ^ j) * 1 ≤ (2 * 2 ^ j) * (2 : Int) ^ (32 - (j + 1)) := Int.mul_le_mul_of_nonneg_left (by omega) (by omega)
  omega
theorem wr32 (n : Int) (h0 : 0 ≤ n) (h1 : n < 2 ^ 32) : IntKind.u32.wrap n = n := u32_w h0 (by rw [p32]; exact h1)
theorem wr64 (n : Int) (h0 : 0 ≤ n) (h1 : n < 2 ^ 64) : IntKind.u64.wrap n = n := by
  have e : (2 : Int) ^ 64 = 18446744073709551616 := by decide
  rw [e] at h1
  exact u64_w h0 h1
theorem or_bit {a : Int} {j : Nat} (h : j < 32) (h0 : 0 ≤ a) (h1 : a < 4294967296) (hm : a % 2 ^ (j + 1) = 0) : Go.bits .or .u32 a (shl .u32 1 (j : Int)) = a + 2 ^ j := by
  rw [shl1 h]
  have hr := room h h1 hm
  exact bits_join .u32 32 (by decide) wr32 (j + 1) a (2 ^ j) h0 hm (by rw [← p32]; exact h1) (Int.le_of_lt (pw_pos j)) (by rw [pw_s]; have := pw_pos j; omega) (by rw [← p32]; omega)
theorem or_low {a b : Int} (h0 : 0 ≤ a) (h1 : a < 20) (hb : b = 0 ∨ b = 1) : Go.bits .or .u32 (2 * a) b = 2 * a + b :=
  bits_join .u32 32 (by decide) wr32 1 (2 * a) b (by omega) (by omega) (by rw [← p32]; omega) (by omega) (by omega) (by rw [← p32]; omega)
theorem and_one {a : Int} (h0 : 0 ≤ a) (h1 : a < 4294967296) : Go.bits .and .u32 a 1 = a % 2 := by
  have := bits_mask .u32 32 (by decide) wr32 1 (by decide) a h0 (by rw [← p32]; exact h1)
  simpa using this

theorem qset {q : List Int} {m : Nat} {C : Int} (hd : Wd q) (hl : q.length ≤ 2) (hm : m < 32 * q.length) (hC : wv q = C * 2 ^ (m + 1)) :
    Wd (q.set (m / 32) (Go.bits .or .u32 (rd q ((m / 32 : Nat) : Int)) (shl .u32 1 ((m % 32 : Nat) : Int)))) ∧
    wv (q.set (m / 32) (Go.bits .or .u32 (rd q ((m / 32 : Nat) : Int)) (shl .u32 1 ((m % 32 : Nat) : Int)))) = wv q + 2 ^ m := by
  have hj : m % 32 < 32 := Nat.mod_lt _ (by omega)
  match q, hl, hm, hd, hC with
  | [a], _, hm, hd, hC =>
    have hm' : m < 32 := by simpa using hm
    have e1 : m / 32 = 0 := by omega
    have e2 : m % 32 = m := by omega
    have ha := hd a (by simp)
    have hz : a % 2 ^ (m + 1) = 0 := by
      have : a = C * 2 ^ (m + 1) := by simpa [wv] using hC
      rw [this, Int.mul_emod_left]
    have hr := room hm' ha.2 hz
    have hp := pw_pos m
    have hrd : rd [a] ((0 : Nat) : Int) = a := rfl
    rw [e1, e2, hrd, or_bit hm' ha.1 ha.2 hz]
    constructor
    · intro d hd
      have : d = a + 2 ^ m := by simpa using hd
      omega
    · show a + 2 ^ m + 4294967296 * 0 = a + 4294967296 * 0 + 2 ^ m
      omega
  | [a, b], _, hm, hd, hC =>
    have ha := hd a (by simp)
    have hb := hd b (by simp)
    have hC' : a + 4294967296 * b = C * 2 ^ (m + 1) := by simpa [wv] using hC
    by_cases hm' : m < 32
    · have e1 : m / 32 = 0 := by omega
      have e2 : m % 32 = m := by omega
      have hz : a % 2 ^ (m + 1) = 0 := by
        have : a = 2 ^ (m + 1) * (C - 2 ^ (32 - (m + 1)) * b) := by
          rw [Int.mul_sub, ← Int.mul_assoc, ← pw_split (show m + 1 ≤ 32 by omega), ← p32, Int.mul_comm _ C, ← hC']
          omega
        rw [this, Int.mul_emod_right]
      have hr := room hm' ha.2 hz
      have hp := pw_pos m
      have hrd : rd [a, b] ((0 : Nat) : Int) = a := rfl
      rw [e1, e2, hrd, or_bit hm' ha.1 ha.2 hz]
      constructor
      · intro d hd
        have : d = a + 2 ^ m ∨ d = b := by simpa using hd
        omega
      · show a + 2 ^ m + 4294967296 * (b + 4294967296 * 0) = a + 4294967296 * (b + 4294967296 * 0) + 2 ^ m
        omega
    · have hm2 : m < 64 := by simpa using hm
      have e1 : m / 32 = 1 := by omega
      obtain ⟨j, rfl⟩ : ∃ j, m = 32 + j := ⟨m - 32, by omega⟩
      have e2 : (32 + j) % 32 = j := by omega
      have ep : (2 : Int) ^ (32 + j + 1) = 4294967296 * 2 ^ (j + 1) := by rw [p32, ← Int.pow_add]; congr 1
      have ep2 : (2 : Int) ^ (32 + j) = 4294967296 * 2 ^ j := by rw [p32, ← Int.pow_add]
      rw [ep, Int.mul_left_comm] at hC'
      have hz0 : a = 0 := by omega
      subst hz0
      have hbC : b = C * 2 ^ (j + 1) := by omega
      have hz : b % 2 ^ (j + 1) = 0 := by rw [hbC, Int.mul_emod_left]
      have hjj : j < 32 := by omega
      have hr := room hjj hb.2 hz
      have hp := pw_pos j
      have hrd : rd [0, b] ((1 : Nat) : Int) = b := rfl
      rw [e1, e2, hrd, or_bit hjj hb.1 hb.2 hz, ep2]
      constructor
      · intro d hd
        have : d = 0 ∨ d = b + 2 ^ j := by simpa using hd
        omega
      · show 0 + 4294967296 * (b + 2 ^ j + 4294967296 * 0) = 0 + 4294967296 * (b + 4294967296 * 0) + 4294967296 * 2 ^ j
        omega

/-! ### the division by ten -/
theorem ew_len (X : Int) : (ew X).length ≤ 2 := by unfold ew tr2 tr1; split <;> (try split) <;> simp
theorem ew_eq_nil {X : Int} (h0 : 0 ≤ X) (h1 : X < 18446744073709551616) : (ew X).length = 0 ↔ X = 0 := by
  unfold ew tr2 tr1
  constructor
  · intro h
    split at h
    · split at h
      · omega
      · simp at h
    · simp at h
  · rintro rfl
    simp
/-- the digit of a number where it has one -/
theorem ew_rd {X : Int} (h0 : 0 ≤ X) (h1 : X < 18446744073709551616) {m : Nat} (hm : m < 32 * (ew X).length) : (rd (ew X) ((m / 32 : Nat) : Int)) / 2 ^ (m % 32) % 2 = X / 2 ^ m % 2 ∧ 0 ≤ rd (ew X) ((m / 32 : Nat) : Int) ∧ rd (ew X) ((m / 32 : Nat) : Int) < 4294967296 := by
  by_cases hm' : m < 32
  · have e1 : m / 32 = 0 := by omega
    have e2 : m % 32 = m := by omega
    have hr : rd (ew X) ((0 : Nat) : Int) = X % 4294967296 := by
      unfold ew tr2 tr1 at hm ⊢
      split
      · split
        · rw [if_pos (by assumption), if_pos (by assumption)] at hm; simp at hm
        · rfl
      · rfl
    rw [e1, e2, hr]
    exact ⟨bit_low hm', by omega, by omega⟩
  · have hl : (ew X).length = 2 := by have := ew_len X; omega
    have hr : rd (ew X) ((1 : Nat) : Int) = X / 4294967296 := by
      unfold ew tr2 tr1 at hl ⊢
      split
      · rw [if_pos (by assumption)] at hl; split at hl <;> simp at hl
      · rfl
    obtain ⟨j, rfl⟩ : ∃ j, m = 32 + j := ⟨m - 32, by omega⟩
    have e1 : (32 + j) / 32 = 1 := by omega
    have e2 : (32 + j) % 32 = j := by omega
    rw [e1, e2, hr]
    refine ⟨?_, by omega, by omega⟩
    rw [Int.pow_add, ← p32, ← Int.ediv_ediv_of_nonneg (by omega)]
theorem trim_ew (k : Nat) {q : List Int} (hd : Wd q) (hl : q.length ≤ 2) : whole_trimmed.f (k + 3) q = some (ew (wv q)) := by
  match q, hl, hd with
  | [], _, _ => exact trim0 (k + 2)
  | [a], _, hd =>
    have ha := hd a (by simp)
    rw [trim1 (k + 1)]
    show some (tr1 a) = some (tr2 ((a + 4294967296 * 0) % 4294967296) ((a + 4294967296 * 0) / 4294967296))
    rw [show (a + 4294967296 * 0) % 4294967296 = a by omega, show (a + 4294967296 * 0) / 4294967296 = 0 by omega]
    rfl
  | [a, b], _, hd =>
    have ha := hd a (by simp)
    have hb := hd b (by simp)
    rw [trim2 k]
    show some (tr2 a b) = some (tr2 ((a + 4294967296 * (b + 4294967296 * 0)) % 4294967296) ((a + 4294967296 * (b + 4294967296 * 0)) / 4294967296))
    rw [show (a + 4294967296 * (b + 4294967296 * 0)) % 4294967296 = a by omega, show (a + 4294967296 * (b + 4294967296 * 0)) / 4294967296 = b by omega]
theorem half {X : Int} (m : Nat) : X / 2 ^ m = 2 * (X / 2 ^ (m + 1)) + X / 2 ^ m % 2 := by
  rw [Int.pow_succ, ← Int.ediv_ediv_of_nonneg (Int.le_of_lt (pw_pos m))]
  omega
theorem By_loop {X : Int} (h0 : 0 ≤ X) (h1 : X < 18446744073709551616) : ∀ (m k : Nat) (q : List Int), m + 6 ≤ k → m ≤ 32 * (ew X).length → q.length = (ew X).length → Wd q →
    wv q = (X / 2 ^ m / 10) * 2 ^ m →
    whole_Int_By.l0 k q (tr1 (X / 2 ^ m % 10)) ((m : Int) - 1) false (ew X) false [10] = some (false, ew (X / 10), false, tr1 (X % 10)) := by
  intro m
  induction m with
  | zero =>
    intro k q hk _ hl hd hv
    obtain ⟨k, rfl⟩ : ∃ j, k = j + 6 := ⟨k - 6, by omega⟩
    have hX : X / 2 ^ 0 = X := by simp
    have hl2 := ew_len X
    rw [hX] at hv ⊢
    have hv' : wv q = X / 10 := by rw [hv]; simp
    have ht : whole_trimmed.f (k + 5) (tr1 (X % 10)) = some (tr1 (X % 10)) := by
      by_cases hz : X % 10 = 0
      · rw [hz]; exact trim0 (k + 4)
      · rw [show tr1 (X % 10) = [X % 10] by simp [tr1, hz], trim1 (k + 3)]; simp [tr1, hz]
    have hq := trim_ew (k + 2) hd (by omega)
    rw [hv'] at hq
    show (if ((0 : Nat) : Int) - 1 ≥ 0 then _ else ((whole_made.f (k + 5) false q).bind fun bt179 => ((whole_made.f (k + 5) false (tr1 (X % 10))).bind fun bt183 => (some (bt179.1, bt179.2, bt183.1, bt183.2))))) = _
    rw [if_neg (by omega), made_ff _ hq, made_ff _ ht]
    rfl
  | succ m ih =>
    intro k q hk hm hl hd hv
    obtain ⟨k, rfl⟩ : ∃ j, k = j + 7 := ⟨k - 7, by omega⟩
    have hl2 := ew_len X
    obtain ⟨hbit, hg0, hg1⟩ := ew_rd h0 h1 (m := m) (by omega)
    have hY := half (X := X) m
    have hb : X / 2 ^ m % 2 = 0 ∨ X / 2 ^ m % 2 = 1 := by omega
    generalize hYe : X / 2 ^ (m + 1) = Y at *
    generalize hbe : X / 2 ^ m % 2 = b at *
    have hR0 : 0 ≤ Y % 10 := by omega
    have hR1 : Y % 10 < 10 := by omega
    obtain ⟨t, hs, ht⟩ := sum_self (k + 4) hR0 hR1
    have hlen : 0 < (((2 * (Y % 10) :: t).length : Nat) : Int) := by simp
    have hx8 : ((m + 1 : Nat) : Int) - 1 = (m : Int) := by omega
    have hdv : wrap64 (Int.tdiv (m : Int) 32) = ((m / 32 : Nat) : Int) := by
      rw [Int.tdiv_eq_ediv_of_nonneg (by omega)]
      unfold wrap64
      omega
    have hmd : Int.tmod (m : Int) 32 = ((m % 32 : Nat) : Int) := by
      rw [Int.tmod_eq_emod_of_nonneg (by omega)]
      omega
    have hin : ((m / 32 : Nat) : Int) < ((ew X).length : Int) := by omega
    have hshr : shr .u32 (rd (ew X) ((m / 32 : Nat) : Int)) ((m % 32 : Nat) : Int) = (rd (ew X) ((m / 32 : Nat) : Int)) / 2 ^ (m % 32) := by
      unfold shr
      rw [Int.toNat_natCast, show min (m % 32) IntKind.u32.bits = m % 32 from Nat.min_eq_left (by show m % 32 ≤ 32; omega)]
    have hd0 : 0 ≤ rd (ew X) ((m / 32 : Nat) : Int) / 2 ^ (m % 32) := Int.ediv_nonneg hg0 (Int.le_of_lt (pw_pos _))
    have hd1 : rd (ew X) ((m / 32 : Nat) : Int) / 2 ^ (m % 32) < 4294967296 := by
      have := Int.ediv_le_self (2 ^ (m % 32)) hg0
      omega
    have hand : Go.bits .and .u32 (shr .u32 (rd (ew X) ((m / 32 : Nat) : Int)) ((m % 32 : Nat) : Int)) 1 = b := by
      rw [hshr, and_one hd0 hd1, hbit]
    have hset : (2 * (Y % 10) :: t).set (0 : Int).toNat (Go.bits .or .u32 (rd (2 * (Y % 10) :: t) 0) b) = (2 * (Y % 10) + b) :: t := by
      rw [show rd (2 * (Y % 10) :: t) 0 = 2 * (Y % 10) from rfl, or_low hR0 (by omega) hb]
      rfl
    have htr := trim_t (k + 3) (v := 2 * (Y % 10) + b) ht
    obtain ⟨c, hc, hc10⟩ := cmp_ten (k + 4) (v := 2 * (Y % 10) + b) (by omega)
    rw [hx8]
    rw [whole_Int_By.l0, if_pos (by omega), hs, Option.bind_some, if_pos hlen, hdv, if_pos (by omega), if_pos hin, hmd, if_pos (by omega), hand, hset, htr, Option.bind_some, hc, Option.bind_some]
    have hwr : wrap64 ((m : Int) - 1) = (m : Int) - 1 := by unfold wrap64; omega
    by_cases hge : c ≥ 0
    · have h10 := hc10.1 hge
      rw [if_pos hge, less_ten (k + 2) h10 (by omega), Option.bind_some, if_pos (by rw [hl]; exact hin), hwr, Int.toNat_natCast]
      obtain ⟨hd', hv'⟩ := qset hd (by omega) (m := m) (by omega) hv
      rw [show (2 * (Y % 10) + b - 10) = X / 2 ^ m % 10 by rw [hY]; omega]
      apply ih _ _ (by omega) (by omega) (by rw [List.length_set]; exact hl) hd'
      rw [hv', hv, hY, pw_s, show (2 * Y + b) / 10 = 2 * (Y / 10) + 1 by omega, Int.add_mul, Int.mul_comm 2 (2 ^ m), ← Int.mul_assoc, Int.mul_comm _ 2, ← Int.mul_assoc, Int.one_mul]
    · have h10 : ¬ (2 * (Y % 10) + b ≥ 10) := fun h => hge (hc10.2 h)
      rw [if_neg hge, hwr, show (2 * (Y % 10) + b) = X / 2 ^ m % 10 by rw [hY]; omega]
      apply ih _ _ (by omega) (by omega) hl hd
      rw [hv, hY, pw_s, show (2 * Y + b) / 10 = 2 * (Y / 10) by omega, Int.mul_comm 2 (2 ^ m), ← Int.mul_assoc, Int.mul_comm _ 2, ← Int.mul_assoc]
theorem wv_zeros : ∀ n : Nat, wv (List.replicate n 0) = 0
  | 0 => rfl
  | n + 1 => by rw [List.replicate_succ]; show 0 + 4294967296 * wv (List.replicate n 0) = 0; rw [wv_zeros n]; omega
theorem By_ten {X : Int} (h0 : 0 ≤ X) (h1 : X < 18446744073709551616) {k : Nat} (hk : 70 ≤ k) : whole_Int_By.f k false (ew X) false [10] = some (false, ew (X / 10), false, tr1 (X % 10)) := by
  have hl := ew_len X
  unfold whole_Int_By.f
  rw [if_pos (by omega), if_pos (by omega), Int.toNat_natCast]
  have hX : X / 2 ^ (32 * (ew X).length) = 0 := by
    apply Int.ediv_eq_zero_of_lt h0
    unfold ew tr2 tr1
    split
    · split
      · show X < 2 ^ 0
        simp; omega
      · show X < 2 ^ 32
        rw [← p32]; omega
    · show X < 2 ^ 64
      have e : (2 : Int) ^ 64 = 18446744073709551616 := by decide
      rw [e]; exact h1
  have := By_loop h0 h1 (32 * (ew X).length) k (List.replicate (ew X).length 0) (by omega) (Nat.le_refl _) (by simp) (by intro d hd; have := (List.mem_replicate.1 hd).2; omega) (by rw [wv_zeros, hX]; simp)
  rw [hX, show tr1 (0 % 10) = [] from rfl, show (((32 * (ew X).length : Nat) : Int) - 1) = wrap64 (wrap64 (((ew X).length : Int) * 32) - 1) by unfold wrap64; omega] at this
  exact this

/-! ### the amount told -/
theorem Sign_nn (l : List Int) : whole_Int_Sign.f false l = some (if l.length = 0 then 0 else 1) := by
  unfold whole_Int_Sign.f
  rw [if_neg (by decide)]
  by_cases h : l.length = 0
  · rw [if_pos (by omega), if_pos h]
  · rw [if_neg (by omega), if_neg h]
theorem e64 : (2 : Int) ^ 64 = 18446744073709551616 := by decide
theorem or_lowest {a : Int} (h0 : 0 ≤ a) (h1 : a < 4294967296) : Go.bits .or .u64 0 (shl .u64 (IntKind.u64.wrap a) 0) = a := by
  have es : shl .u64 (IntKind.u64.wrap a) 0 = a := by
    unfold shl
    rw [u64_w h0 (by omega)]
    simp
    exact u64_w h0 (by omega)
  rw [es, bits_join .u64 64 (by decide) wr64 32 0 a (by omega) (by simp) (by decide) h0 (by rw [← p32]; exact h1) (by rw [e64]; omega)]
  omega
theorem or_next {a b : Int} (h0 : 0 ≤ a) (h1 : a < 4294967296) (g0 : 0 ≤ b) (g1 : b < 2147483648) : Go.bits .or .u64 a (shl .u64 (IntKind.u64.wrap b) 32) = 4294967296 * b + a := by
  have es : shl .u64 (IntKind.u64.wrap b) 32 = 4294967296 * b := by
    unfold shl
    rw [u64_w g0 (by omega), show (2 : Int) ^ min (Int.toNat 32) IntKind.u64.bits = 4294967296 by decide, u64_w (by omega) (by omega)]
    omega
  have hc : Go.bits .or .u64 a (4294967296 * b) = Go.bits .or .u64 (4294967296 * b) a := by simp only [Go.bits, BitVec.or_comm]
  rw [es, hc, bits_join .u64 64 (by decide) wr64 32 (4294967296 * b) a (by omega) (by rw [← p32]; omega) (by rw [e64]; omega) h0 (by rw [← p32]; exact h1) (by rw [e64]; omega)]
theorem Int_ew {X : Int} (h0 : 0 ≤ X) (h1 : X ≤ 1000000000000000) (k : Nat) : whole_Int_Int.f (k + 3) false (ew X) 1000000000000000 = some (X, true) := by
  have hl := ew_len X
  unfold whole_Int_Int.f
  rw [if_neg (by omega)]
  have hw : IntKind.u64.wrap 1000000000000000 = 1000000000000000 := u64_w (by omega) (by omega)
  unfold ew tr2 tr1
  by_cases hb : X / 4294967296 = 0
  · rw [if_pos hb]
    by_cases ha : X % 4294967296 = 0
    · have : X = 0 := by omega
      subst this
      simp [whole_Int_Int.l0, hw, wz0]
    · rw [if_neg ha, show X % 4294967296 = X by omega]
      have e1 := or_lowest (a := X) h0 (by omega)
      have e2 : ¬ X > 1000000000000000 := by omega
      have e3 : wrap64 X = X := by unfold wrap64; omega
      simp [whole_Int_Int.l0, rd, wz0, wz1, e1, hw, e2, e3]
  · rw [if_neg hb]
    have e1 := or_lowest (a := X % 4294967296) (by omega) (by omega)
    have e2 : ¬ X > 1000000000000000 := by omega
    have e3 : wrap64 X = X := by unfold wrap64; omega
    have e4 : wrap64 32 = 32 := by unfold wrap64; omega
    have e5 := or_next (a := X % 4294967296) (b := X / 4294967296) (by omega) (by omega) (by omega) (by omega)
    rw [show 4294967296 * (X / 4294967296) + X % 4294967296 = X by omega] at e5
    simp [whole_Int_Int.l0, rd, wz0, wz1, wz2, e1, hw, e2, e3, e4, e5]
theorem Fewest_loop : ∀ (p k : Nat) (X : Int), 0 ≤ X → X ≤ 1000000000000000 → 80 + p ≤ k → p ≤ 4 →
    ∃ (u : Int) (q : Nat), amount_Fewest.l0 k (p : Int) false (ew X) false [10] = some (u, (q : Int), 0) ∧ q ≤ p ∧ u * 10 ^ (p - q) = X := by
  intro p
  have made : ∀ (k : Nat) (X : Int) (p : Nat), 0 ≤ X → X ≤ 1000000000000000 → 3 ≤ k → ((amount_Made.f k false (ew X) (p : Int)).bind fun bt222 => (some (bt222.1, bt222.2.1, bt222.2.2))) = some (X, (p : Int), 0) := by
    intro k X p h0 h1 hk
    obtain ⟨k, rfl⟩ : ∃ j, k = j + 3 := ⟨k - 3, by omega⟩
    unfold amount_Made.f
    rw [Int_ew h0 h1]
    rfl
  induction p with
  | zero =>
    intro k X h0 h1 hk _
    obtain ⟨k, rfl⟩ : ∃ j, k = j + 1 := ⟨k - 1, by omega⟩
    refine ⟨X, 0, ?_, Nat.le_refl _, by simp⟩
    rw [amount_Fewest.l0, if_neg (by omega)]
    exact made k X 0 h0 h1 (by omega)
  | succ p ih =>
    intro k X h0 h1 hk hp
    obtain ⟨k, rfl⟩ : ∃ j, k = j + 1 := ⟨k - 1, by omega⟩
    rw [amount_Fewest.l0, if_pos (by omega), By_ten h0 (by omega) (by omega), Option.bind_some]
    by_cases hr : X % 10 = 0
    · obtain ⟨u, q, h, hq, hu⟩ := ih k (X / 10) (by omega) (by omega) (by omega) (by omega)
      refine ⟨u, q, ?_, by omega, ?_⟩
      · have hnn : ∀ l : List Int, ¬ ((if l.length = 0 then 0 else 1 : Int) < 0) := by intro l; split <;> omega
        rw [show tr1 (X % 10) = [] by simp [tr1, hr], Sign_nn, Option.bind_some, if_pos (by rfl), Sign_nn, Option.bind_some, if_neg (hnn _), show wrap64 (((p + 1 : Nat) : Int) - 1) = (p : Int) by unfold wrap64; omega]
        exact h
      · rw [show p + 1 - q = (p - q) + 1 by omega, Int.pow_succ, ← Int.mul_assoc, hu]
        omega
    · refine ⟨X, p + 1, ?_, Nat.le_refl _, by simp⟩
      rw [show tr1 (X % 10) = [X % 10] by simp [tr1, hr], Sign_nn, Option.bind_some, if_neg (by simp)]
      exact made k X (p + 1) h0 h1 (by omega)
/-- the amount that is told of a number of hundredths of hundredths -/
theorem told_eq {X : Int} (h0 : 0 ≤ X) (h1 : X ≤ 1000000000000000) {k : Nat} (hk : 100 ≤ k) : ∃ (u : Int) (q : Nat), bill_toldMoney.f k X = some (u, (q : Int)) ∧ q ≤ 4 ∧ u * 10 ^ (4 - q) = X := by
  obtain ⟨u, q, h, hq, hu⟩ := Fewest_loop 4 k X h0 h1 (by omega) (by omega)
  refine ⟨u, q, ?_, hq, hu⟩
  obtain ⟨k, rfl⟩ : ∃ j, k = j + 3 := ⟨k - 3, by omega⟩
  have h10 : ew 10 = [10] := by decide
  unfold bill_toldMoney.f bill_money.f amount_Fewest.f
  rw [Of_pos k h0 (by omega), Option.bind_some, Of_pos k (show (0 : Int) ≤ 10 by omega) (by omega), Option.bind_some, h10, show (4 : Int) = ((4 : Nat) : Int) from rfl, h]
  rfl
/-! ### an amount that may be too large to be told -/
theorem Int_any {X : Int} (h0 : 0 ≤ X) (h1 : X < 9223372036854775808) (k : Nat) : ∃ b : Bool, whole_Int_Int.f (k + 3) false (ew X) 1000000000000000 = some (if b then X else 0, b) ∧ (b = true → X ≤ 1000000000000000) := by
  by_cases h2 : X ≤ 1000000000000000
  · exact ⟨true, Int_ew h0 h2 k, fun _ => h2⟩
  · refine ⟨false, ?_, fun h => by cases h⟩
    have hl := ew_len X
    unfold whole_Int_Int.f
    rw [if_neg (by omega)]
    have hw : IntKind.u64.wrap 1000000000000000 = 1000000000000000 := u64_w (by omega) (by omega)
    unfold ew tr2 tr1
    have hb : ¬ X / 4294967296 = 0 := by omega
    rw [if_neg hb]
    have e1 := or_lowest (a := X % 4294967296) (by omega) (by omega)
    have e2 : X > 1000000000000000 := by omega
    have e4 : wrap64 32 = 32 := by unfold wrap64; omega
    have e5 := or_next (a := X % 4294967296) (b := X / 4294967296) (by omega) (by omega) (by omega) (by omega)
    rw [show 4294967296 * (X / 4294967296) + X % 4294967296 = X by omega] at e5
    simp [whole_Int_Int.l0, rd, wz0, wz1, wz2, e1, hw, e2, e4, e5]
theorem Fewest_any : ∀ (p k : Nat) (X : Int), 0 ≤ X → X < 9223372036854775808 → 80 + p ≤ k → p ≤ 4 →
    ∃ (u q e : Int), amount_Fewest.l0 k (p : Int) false (ew X) false [10] = some (u, q, e) ∧ (e = 0 → 0 ≤ q ∧ q ≤ p ∧ 0 ≤ u ∧ u ≤ 1000000000000000 ∧ u * 10 ^ ((p : Int) - q).toNat = X) := by
  intro p
  have made : ∀ (k : Nat) (X : Int) (p : Nat), 0 ≤ X → X < 9223372036854775808 → 3 ≤ k → ∃ (u q e : Int), ((amount_Made.f k false (ew X) (p : Int)).bind fun bt222 => (some (bt222.1, bt222.2.1, bt222.2.2))) = some (u, q, e) ∧ (e = 0 → 0 ≤ q ∧ q ≤ p ∧ 0 ≤ u ∧ u ≤ 1000000000000000 ∧ u * 10 ^ ((p : Int) - q).toNat = X) := by
    intro k X p h0 h1 hk
    obtain ⟨k, rfl⟩ : ∃ j, k = j + 3 := ⟨k - 3, by omega⟩
    obtain ⟨b, hb, hle⟩ := Int_any h0 h1 k
    unfold amount_Made.f
    rw [hb]
    cases b with
    | true => exact ⟨X, p, 0, rfl, fun _ => ⟨by omega, by omega, h0, hle rfl, by simp⟩⟩
    | false => exact ⟨0, 0, 1, rfl, fun h => absurd h (by decide)⟩
  induction p with
  | zero =>
    intro k X h0 h1 hk _
    obtain ⟨k, rfl⟩ : ∃ j, k = j + 1 := ⟨k - 1, by omega⟩
    rw [amount_Fewest.l0, if_neg (by omega)]
    exact made k X 0 h0 h1 (by omega)
  | succ p ih =>
    intro k X h0 h1 hk hp
    obtain ⟨k, rfl⟩ : ∃ j, k = j + 1 := ⟨k - 1, by omega⟩
    rw [amount_Fewest.l0, if_pos (by omega), By_ten h0 (by omega) (by omega), Option.bind_some]
    by_cases hr : X % 10 = 0
    · obtain ⟨u, q, e, h, hz⟩ := ih k (X / 10) (by omega) (by omega) (by omega) (by omega)
      refine ⟨u, q, e, ?_, fun he => ?_⟩
      · have hnn : ∀ l : List Int, ¬ ((if l.length = 0 then 0 else 1 : Int) < 0) := by intro l; split <;> omega
        rw [show tr1 (X % 10) = [] by simp [tr1, hr], Sign_nn, Option.bind_some, if_pos (by rfl), Sign_nn, Option.bind_some, if_neg (hnn _), show wrap64 (((p + 1 : Nat) : Int) - 1) = (p : Int) by unfold wrap64; omega]
        exact h
      · obtain ⟨h2, h3, h4, h5, h6⟩ := hz he
        refine ⟨h2, by omega, h4, h5, ?_⟩
        rw [show (((p + 1 : Nat) : Int) - q).toNat = ((p : Int) - q).toNat + 1 by omega, Int.pow_succ, ← Int.mul_assoc, h6]
        omega
    · rw [show tr1 (X % 10) = [X % 10] by simp [tr1, hr], Sign_nn, Option.bind_some, if_neg (by simp)]
      exact made k X (p + 1) h0 h1 (by omega)
/-- the amount of a number of hundredths of hundredths, or that there is none -/
theorem money_or {X : Int} (h0 : 0 ≤ X) (h1 : X < 9223372036854775808) {k : Nat} (hk : 100 ≤ k) : ∃ (u q e : Int), bill_money.f k X = some (u, q, e) ∧ (e = 0 → 0 ≤ q ∧ q ≤ 4 ∧ 0 ≤ u ∧ u ≤ 1000000000000000 ∧ u * 10 ^ (4 - q).toNat = X) := by
  obtain ⟨u, q, e, h, hz⟩ := Fewest_any 4 k X h0 h1 (by omega) (by omega)
  refine ⟨u, q, e, ?_, hz⟩
  obtain ⟨k, rfl⟩ : ∃ j, k = j + 3 := ⟨k - 3, by omega⟩
  have h10 : ew 10 = [10] := by decide
  unfold bill_money.f amount_Fewest.f
  rw [Of_pos k h0 (by omega), Option.bind_some, Of_pos k (show (0 : Int) ≤ 10 by omega) (by omega), Option.bind_some, h10, show (4 : Int) = ((4 : Nat) : Int) from rfl, h]
  rfl
end Go.Proofs.YtaihfoihlbileaaDoor.R4
