import Derived.Sort.LotA
import Derived.Shelf.SlSortCmp.Insertion
import Derived.Test.YtaihfoihlbileaaGreatDoorProg
import Derived.Sort.WalkC
import Derived.Sort.WalkA
import Derived.Deep.LoopGhost
import Derived.Deep.QuietTactic
import Derived.BigQuiet
import Derived.BigRegion
import Derived.WalkKit
import Derived.Laws.BitsLemmas
import Derived.Shelf.SlicesE.Kit
import Derived.KernelRfl
import Derived.Maps.Own
import Derived.Maps.OwnOps
import Derived.Maps.OwnSet
import Derived.Maps.Views
import Derived.Deep.RegionHeldLaw
import Derived.Test.YtaihfoihlbileaaGreatDoorF7e
set_option maxHeartbeats 8000000
set_option maxRecDepth 1000000
set_option linter.unusedVariables false
set_option linter.unusedSimpArgs false
set_option linter.unusedSectionVars false
namespace Go.Proofs.YtaihfoihlbileaaGreatDoor.R7
open Go Go.Proofs Go.RowKit YtaihfoihlbileaaGreatDoorW.PrintWords
theorem wz0 : wrap64 0 = 0 := by unfold wrap64; omega
theorem wz1 : wrap64 1 = 1 := by unfold wrap64; omega
theorem wzm : wrap64 (-1) = -1 := by unfold wrap64; omega
theorem wz2 : wrap64 2 = 2 := by unfold wrap64; omega
theorem u32_w {n : Int} (h0 : 0 ≤ n) (h1 : n < 4294967296) : IntKind.u32.wrap n = n := by rw [IntKind.wrap_u32]; omega
theorem u64_e (n : Int) : IntKind.u64.wrap n = n % 18446744073709551616 := by simp [IntKind.wrap, IntKind.bits, IntKind.signed]
theorem zCb {n : Int} (h0 : 0 ≤ n) (h1 : n < 18446744073709551616) : IntKind.u64.wrap n = n := by rw [u64_e]; omega
def tr1 (a : Int) : List Int := if a = 0 then [] else [a]
def tr2 (a b : Int) : List Int := if b = 0 then tr1 a else [a, b]
def ew (n : Int) : List Int := tr2 (n % 4294967296) (n / 4294967296)
theorem trim0 (k : Nat) : qQ.f (k + 1) [] = some [] := by simp [qQ.f, qQ.l0]
theorem qKl (k : Nat) (a : Int) : qQ.f (k + 2) [a] = some (tr1 a) := by
 unfold tr1
 by_cases h : a = 0
 ·simp [qQ.f, qQ.l0, rd, wz0, h]
 ·simp [qQ.f, qQ.l0, rd, wz0, h]
theorem trim2 (k : Nat) (a b : Int) : qQ.f (k + 3) [a, b] = some (tr2 a b) := by
 unfold tr2
 by_cases h : b = 0
 ·rw [if_pos h, ← qKl k a]
  simp [qQ.f, qQ.l0, rd, wz1, h]
 ·simp [qQ.f, qQ.l0, rd, wz1, h]
theorem qQx (k : Nat) {l r : List Int} (h : qQ.f k l = some r) : jT.f k false l = some (false, r) := by
 unfold jT.f
 rw [h]
 simp
theorem qJw (k : Nat) {n : Int} (h0 : 0 ≤ n) (h1 : n < 9223372036854775808) : uL.f (k + 3) n = some (false, ew n) := by
 unfold uL.f
 rw [if_neg (by omega), zCb h0 (by omega), show n / 4294967296 % 4294967296 = n / 4294967296 by omega, qQx _ (trim2 k _ _)]
 rfl
theorem sum_self (k : Nat) {r : Int} (h0 : 0 ≤ r) (h1 : r < 10) : ∃ t, yS.f (k + 2) (tr1 r) (tr1 r) = some (2 * r :: t) ∧ (t = [] ∨ t = [0]) := by
 by_cases h : r = 0
 ·subst h
  refine ⟨[], ?_, Or.inl rfl⟩
  simp [tr1, yS.f, jY.f, jY.l0, wz1]
 ·refine ⟨[0], ?_, Or.inr rfl⟩
  have e2 : r % 18446744073709551616 = r := by omega
  have e3 : (r + r) % 18446744073709551616 = 2 * r := by omega
  have e4 : 2 * r % 4294967296 = 2 * r := by omega
  have e5 : 2 * r / 4294967296 % 4294967296 = 0 := by omega
  simp [tr1, h, yS.f, jY.f, jY.l0, wz1, wz2, rd, u64_e, e2, e3, e4, e5]
theorem trim_t (k : Nat) {v : Int} {t : List Int} (ht : t = [] ∨ t = [0]) : qQ.f (k + 3) (v :: t) = some (tr1 v) := by
 rcases ht with rfl | rfl
 ·exact qKl (k + 1) v
 ·rw [trim2 k v 0]; rfl
theorem cmp_ten (k : Nat) {v : Int} (h0 : 0 ≤ v) : ∃ c, qN.f (k + 2) (tr1 v) [10] = some c ∧ (c ≥ 0 ↔ v ≥ 10) := by
 unfold tr1
 by_cases h : v = 0
 ·refine ⟨-1, ?_, by omega⟩
  simp [qN.f, h, wzm]
 ·by_cases h1 : v = 10
  ·refine ⟨0, ?_, by omega⟩
   simp [qN.f, qN.l0, h1, wz0, wzm, rd]
  ·by_cases h2 : v < 10
   ·refine ⟨-1, ?_, by omega⟩
    simp [qN.f, qN.l0, h, h1, h2, wz0, rd]
   ·refine ⟨1, ?_, by omega⟩
    simp [qN.f, qN.l0, h, h1, h2, wz0, rd]
theorem less_ten (k : Nat) {v : Int} (h0 : 10 ≤ v) (h1 : v < 20) : jE.f (k + 4) (tr1 v) [10] = some (tr1 (v - 10)) := by
 have h : ¬ v = 0 := by omega
 have e2 : (v - 10) % 18446744073709551616 = v - 10 := by omega
 have e3 : (v - 10) % 4294967296 = v - 10 := by omega
 have e0 : v % 18446744073709551616 = v := by omega
 have ht := qKl k (v - 10)
 rw [show tr1 v = [v] by simp [tr1, h]]
 simp [jE.f, jE.l0, rd, u64_e, e0, e2, e3, wz1, ht]
def wv : List Int → Int
 | [] => 0
 | d :: r => d + 4294967296 * wv r
def Wd (l : List Int) : Prop := ∀ d ∈ l, 0 ≤ d ∧ d < 4294967296
theorem zVj {i j : Nat} (h : i ≤ j) : (2 : Int) ^ j = 2 ^ i * 2 ^ (j - i) := by rw [← Int.pow_add]; congr 1; omega
theorem p32 : (4294967296 : Int) = 2 ^ 32 := by decide
theorem kZ (i : Nat) : (0 : Int) < 2 ^ i := Int.pow_pos (by omega)
theorem pw_s (i : Nat) : (2 : Int) ^ (i + 1) = 2 * 2 ^ i := by rw [Int.pow_succ]; omega
theorem bit_low {X : Int} {j : Nat} (h : j < 32) : X % 4294967296 / 2 ^ j % 2 = X / 2 ^ j % 2 := by
 have h1 : X = X % 4294967296 + 2 ^ j * (2 * (2 ^ (31 - j) * (X / 4294967296))) := by
  have : (2 : Int) ^ j * (2 * (2 ^ (31 - j) * (X / 4294967296))) = 4294967296 * (X / 4294967296) := by
   rw [p32, zVj (show j ≤ 32 by omega), show 32 - j = (31 - j) + 1 by omega, pw_s]
   simp only [Int.mul_assoc, Int.mul_left_comm]
  rw [this]
  omega
 have h2 : X / 2 ^ j = X % 4294967296 / 2 ^ j + 2 * (2 ^ (31 - j) * (X / 4294967296)) := by
  conv => lhs; rw [h1]
  rw [Int.add_mul_ediv_left _ _ (Int.ne_of_gt (kZ j))]
 rw [h2]
 omega
theorem room {a : Int} {j : Nat} (h : j < 32) (h1 : a < 4294967296) (hm : a % 2 ^ (j + 1) = 0) : a + 2 ^ j < 4294967296 := by
 have e : (4294967296 : Int) = 2 ^ (j + 1) * 2 ^ (31 - j) := by rw [p32, zVj (show j + 1 ≤ 32 by omega), show 32 - (j + 1) = 31 - j by omega]
 have ha : a = 2 ^ (j + 1) * (a / 2 ^ (j + 1)) := by
  have := Int.mul_ediv_add_emod a (2 ^ (j + 1))
  omega
 have hlt : a / 2 ^ (j + 1) < 2 ^ (31 - j) := by
  apply Int.lt_of_mul_lt_mul_left (a := 2 ^ (j + 1)) _ (Int.le_of_lt (kZ _))
  rw [← ha, ← e]
  exact h1
 have hle : 2 ^ (j + 1) * (a / 2 ^ (j + 1) + 1) ≤ 2 ^ (j + 1) * 2 ^ (31 - j) := Int.mul_le_mul_of_nonneg_left (by omega) (Int.le_of_lt (kZ _))
 rw [← e, Int.mul_add, ← ha, Int.mul_one, pw_s] at hle
 have := kZ j
 omega
theorem shl1 {j : Nat} (h : j < 32) : shl .u32 1 (j : Int) = 2 ^ j := by
 unfold shl
 rw [Int.toNat_natCast, show min j IntKind.u32.bits = j from Nat.min_eq_left (by show j ≤ 32; omega), Int.one_mul]
 apply u32_w (Int.le_of_lt (kZ j))
 rw [p32, zVj (show j + 1 ≤ 32 by omega), pw_s]
 have := kZ (32 - (j + 1))
 have := kZ j
 have h2 : (2 * 2 ^ j) * 1 ≤ (2 * 2 ^ j) * (2 : Int) ^ (32 - (j + 1)) := Int.mul_le_mul_of_nonneg_left (by omega) (by omega)
 omega
theorem wr32 (n : Int) (h0 : 0 ≤ n) (h1 : n < 2 ^ 32) : IntKind.u32.wrap n = n := u32_w h0 (by rw [p32]; exact h1)
theorem wr64 (n : Int) (h0 : 0 ≤ n) (h1 : n < 2 ^ 64) : IntKind.u64.wrap n = n := by
 have e : (2 : Int) ^ 64 = 18446744073709551616 := by decide
 rw [e] at h1
 exact zCb h0 h1
theorem or_bit {a : Int} {j : Nat} (h : j < 32) (h0 : 0 ≤ a) (h1 : a < 4294967296) (hm : a % 2 ^ (j + 1) = 0) : Go.bits .or .u32 a (shl .u32 1 (j : Int)) = a + 2 ^ j := by
 rw [shl1 h]
 have hr := room h h1 hm
 exact bits_join .u32 32 (by decide) wr32 (j + 1) a (2 ^ j) h0 hm (by rw [← p32]; exact h1) (Int.le_of_lt (kZ j)) (by rw [pw_s]; have := kZ j; omega) (by rw [← p32]; omega)
theorem or_low {a b : Int} (h0 : 0 ≤ a) (h1 : a < 20) (hb : b = 0 ∨ b = 1) : Go.bits .or .u32 (2 * a) b = 2 * a + b :=
 bits_join .u32 32 (by decide) wr32 1 (2 * a) b (by omega) (by omega) (by rw [← p32]; omega) (by omega) (by omega) (by rw [← p32]; omega)
theorem and_one {a : Int} (h0 : 0 ≤ a) (h1 : a < 4294967296) : Go.bits .and .u32 a 1 = a % 2 := by
 have := bits_mask .u32 32 (by decide) wr32 1 (by decide) a h0 (by rw [← p32]; exact h1)
 simpa using this
theorem qset {q : List Int} {m : Nat} {C : Int} (hd : Wd q) (hl : q.length ≤ 2) (hm : m < 32 * q.length) (hC : wv q = C * 2 ^ (m + 1)) :
  Wd (q.set (m / 32) (Go.bits .or .u32 (rd q ((m / 32 : Nat) : Int)) (shl .u32 1 ((m % 32 : Nat) : Int)))) ∧
  wv (q.set (m / 32) (Go.bits .or .u32 (rd q ((m / 32 : Nat) : Int)) (shl .u32 1 ((m % 32 : Nat) : Int)))) = wv q + 2 ^ m := by
 have hj : m % 32 < 32 := Nat.mod_lt _ (by omega)
 match q, hl, hm, hd, hC with
 | [a], _, hm, hd, hC =>
  have hm' : m < 32 := by simpa using hm
  have e1 : m / 32 = 0 := by omega
  have e2 : m % 32 = m := by omega
  have ha := hd a (by simp)
  have hz : a % 2 ^ (m + 1) = 0 := by
   have : a = C * 2 ^ (m + 1) := by simpa [wv] using hC
   rw [this, Int.mul_emod_left]
  have hr := room hm' ha.2 hz
  have hp := kZ m
  have hrd : rd [a] ((0 : Nat) : Int) = a := rfl
  rw [e1, e2, hrd, or_bit hm' ha.1 ha.2 hz]
  constructor
  ·intro d hd
   have : d = a + 2 ^ m := by simpa using hd
   omega
  ·show a + 2 ^ m + 4294967296 * 0 = a + 4294967296 * 0 + 2 ^ m
   omega
 | [a, b], _, hm, hd, hC =>
  have ha := hd a (by simp)
  have hb := hd b (by simp)
  have hC' : a + 4294967296 * b = C * 2 ^ (m + 1) := by simpa [wv] using hC
  by_cases hm' : m < 32
  ·have e1 : m / 32 = 0 := by omega
   have e2 : m % 32 = m := by omega
   have hz : a % 2 ^ (m + 1) = 0 := by
    have : a = 2 ^ (m + 1) * (C - 2 ^ (32 - (m + 1)) * b) := by
     rw [Int.mul_sub, ← Int.mul_assoc, ← zVj (show m + 1 ≤ 32 by omega), ← p32, Int.mul_comm _ C, ← hC']
     omega
    rw [this, Int.mul_emod_right]
   have hr := room hm' ha.2 hz
   have hp := kZ m
   have hrd : rd [a, b] ((0 : Nat) : Int) = a := rfl
   rw [e1, e2, hrd, or_bit hm' ha.1 ha.2 hz]
   constructor
   ·intro d hd
    have : d = a + 2 ^ m ∨ d = b := by simpa using hd
    omega
   ·show a + 2 ^ m + 4294967296 * (b + 4294967296 * 0) = a + 4294967296 * (b + 4294967296 * 0) + 2 ^ m
    omega
  ·have hm2 : m < 64 := by simpa using hm
   have e1 : m / 32 = 1 := by omega
   obtain ⟨j, rfl⟩ : ∃ j, m = 32 + j := ⟨m - 32, by omega⟩
   have e2 : (32 + j) % 32 = j := by omega
   have ep : (2 : Int) ^ (32 + j + 1) = 4294967296 * 2 ^ (j + 1) := by rw [p32, ← Int.pow_add]; congr 1
   have ep2 : (2 : Int) ^ (32 + j) = 4294967296 * 2 ^ j := by rw [p32, ← Int.pow_add]
   rw [ep, Int.mul_left_comm] at hC'
   have hz0 : a = 0 := by omega
   subst hz0
   have hbC : b = C * 2 ^ (j + 1) := by omega
   have hz : b % 2 ^ (j + 1) = 0 := by rw [hbC, Int.mul_emod_left]
   have hjj : j < 32 := by omega
   have hr := room hjj hb.2 hz
   have hp := kZ j
   have hrd : rd [0, b] ((1 : Nat) : Int) = b := rfl
   rw [e1, e2, hrd, or_bit hjj hb.1 hb.2 hz, ep2]
   constructor
   ·intro d hd
    have : d = 0 ∨ d = b + 2 ^ j := by simpa using hd
    omega
   ·show 0 + 4294967296 * (b + 2 ^ j + 4294967296 * 0) = 0 + 4294967296 * (b + 4294967296 * 0) + 4294967296 * 2 ^ j
    omega
theorem zYl (X : Int) : (ew X).length ≤ 2 := by unfold ew tr2 tr1; split <;> (try split) <;> simp
theorem ew_rd {X : Int} (h0 : 0 ≤ X) (h1 : X < 18446744073709551616) {m : Nat} (hm : m < 32 * (ew X).length) : (rd (ew X) ((m / 32 : Nat) : Int)) / 2 ^ (m % 32) % 2 = X / 2 ^ m % 2 ∧ 0 ≤ rd (ew X) ((m / 32 : Nat) : Int) ∧ rd (ew X) ((m / 32 : Nat) : Int) < 4294967296 := by
 by_cases hm' : m < 32
 ·have e1 : m / 32 = 0 := by omega
  have e2 : m % 32 = m := by omega
  have hr : rd (ew X) ((0 : Nat) : Int) = X % 4294967296 := by
   unfold ew tr2 tr1 at hm ⊢
   split
   ·split
    ·rw [if_pos (by assumption), if_pos (by assumption)] at hm; simp at hm
    ·rfl
   ·rfl
  rw [e1, e2, hr]
  exact ⟨bit_low hm', by omega, by omega⟩
 ·have hl : (ew X).length = 2 := by have := zYl X; omega
  have hr : rd (ew X) ((1 : Nat) : Int) = X / 4294967296 := by
   unfold ew tr2 tr1 at hl ⊢
   split
   ·rw [if_pos (by assumption)] at hl; split at hl <;> simp at hl
   ·rfl
  obtain ⟨j, rfl⟩ : ∃ j, m = 32 + j := ⟨m - 32, by omega⟩
  have e1 : (32 + j) / 32 = 1 := by omega
  have e2 : (32 + j) % 32 = j := by omega
  rw [e1, e2, hr]
  refine ⟨?_, by omega, by omega⟩
  rw [Int.pow_add, ← p32, ← Int.ediv_ediv_of_nonneg (by omega)]
theorem trim_ew (k : Nat) {q : List Int} (hd : Wd q) (hl : q.length ≤ 2) : qQ.f (k + 3) q = some (ew (wv q)) := by
 match q, hl, hd with
 | [], _, _ => exact trim0 (k + 2)
 | [a], _, hd =>
  have ha := hd a (by simp)
  rw [qKl (k + 1)]
  show some (tr1 a) = some (tr2 ((a + 4294967296 * 0) % 4294967296) ((a + 4294967296 * 0) / 4294967296))
  rw [show (a + 4294967296 * 0) % 4294967296 = a by omega, show (a + 4294967296 * 0) / 4294967296 = 0 by omega]
  rfl
 | [a, b], _, hd =>
  have ha := hd a (by simp)
  have hb := hd b (by simp)
  rw [trim2 k]
  show some (tr2 a b) = some (tr2 ((a + 4294967296 * (b + 4294967296 * 0)) % 4294967296) ((a + 4294967296 * (b + 4294967296 * 0)) / 4294967296))
  rw [show (a + 4294967296 * (b + 4294967296 * 0)) % 4294967296 = a by omega, show (a + 4294967296 * (b + 4294967296 * 0)) / 4294967296 = b by omega]
theorem half {X : Int} (m : Nat) : X / 2 ^ m = 2 * (X / 2 ^ (m + 1)) + X / 2 ^ m % 2 := by
 rw [Int.pow_succ, ← Int.ediv_ediv_of_nonneg (Int.le_of_lt (kZ m))]
 omega
theorem By_loop {X : Int} (h0 : 0 ≤ X) (h1 : X < 18446744073709551616) : ∀ (m k : Nat) (q : List Int), m + 6 ≤ k → m ≤ 32 * (ew X).length → q.length = (ew X).length → Wd q →
  wv q = (X / 2 ^ m / 10) * 2 ^ m →
  zU.l0 k q (tr1 (X / 2 ^ m % 10)) ((m : Int) - 1) false (ew X) false [10] = some (false, ew (X / 10), false, tr1 (X % 10)) := by
 intro m
 induction m with
 | zero =>
  intro k q hk _ hl hd hv
  obtain ⟨k, rfl⟩ : ∃ j, k = j + 6 := ⟨k - 6, by omega⟩
  have hX : X / 2 ^ 0 = X := by simp
  have hl2 := zYl X
  rw [hX] at hv ⊢
  have hv' : wv q = X / 10 := by rw [hv]; simp
  have ht : qQ.f (k + 5) (tr1 (X % 10)) = some (tr1 (X % 10)) := by
   by_cases hz : X % 10 = 0
   ·rw [hz]; exact trim0 (k + 4)
   ·rw [show tr1 (X % 10) = [X % 10] by simp [tr1, hz], qKl (k + 3)]; simp [tr1, hz]
  have hq := trim_ew (k + 2) hd (by omega)
  rw [hv'] at hq
  show (if ((0 : Nat) : Int) - 1 ≥ 0 then _ else ((jT.f (k + 5) false q).bind fun bt179 => ((jT.f (k + 5) false (tr1 (X % 10))).bind fun bt183 => (some (bt179.1, bt179.2, bt183.1, bt183.2))))) = _
  rw [if_neg (by omega), qQx _ hq, qQx _ ht]
  rfl
 | succ m ih =>
  intro k q hk hm hl hd hv
  obtain ⟨k, rfl⟩ : ∃ j, k = j + 7 := ⟨k - 7, by omega⟩
  have hl2 := zYl X
  obtain ⟨hbit, hg0, hg1⟩ := ew_rd h0 h1 (m := m) (by omega)
  have hY := half (X := X) m
  have hb : X / 2 ^ m % 2 = 0 ∨ X / 2 ^ m % 2 = 1 := by omega
  generalize hYe : X / 2 ^ (m + 1) = Y at *
  generalize hbe : X / 2 ^ m % 2 = b at *
  have hR0 : 0 ≤ Y % 10 := by omega
  have hR1 : Y % 10 < 10 := by omega
  obtain ⟨t, hs, ht⟩ := sum_self (k + 4) hR0 hR1
  have hlen : 0 < (((2 * (Y % 10) :: t).length : Nat) : Int) := by simp
  have hx8 : ((m + 1 : Nat) : Int) - 1 = (m : Int) := by omega
  have hdv : wrap64 (Int.tdiv (m : Int) 32) = ((m / 32 : Nat) : Int) := by
   rw [Int.tdiv_eq_ediv_of_nonneg (by omega)]
   unfold wrap64
   omega
  have hmd : Int.tmod (m : Int) 32 = ((m % 32 : Nat) : Int) := by
   rw [Int.tmod_eq_emod_of_nonneg (by omega)]
   omega
  have hin : ((m / 32 : Nat) : Int) < ((ew X).length : Int) := by omega
  have hshr : shr .u32 (rd (ew X) ((m / 32 : Nat) : Int)) ((m % 32 : Nat) : Int) = (rd (ew X) ((m / 32 : Nat) : Int)) / 2 ^ (m % 32) := by
   unfold shr
   rw [Int.toNat_natCast, show min (m % 32) IntKind.u32.bits = m % 32 from Nat.min_eq_left (by show m % 32 ≤ 32; omega)]
  have hd0 : 0 ≤ rd (ew X) ((m / 32 : Nat) : Int) / 2 ^ (m % 32) := Int.ediv_nonneg hg0 (Int.le_of_lt (kZ _))
  have hd1 : rd (ew X) ((m / 32 : Nat) : Int) / 2 ^ (m % 32) < 4294967296 := by
   have := Int.ediv_le_self (2 ^ (m % 32)) hg0
   omega
  have hand : Go.bits .and .u32 (shr .u32 (rd (ew X) ((m / 32 : Nat) : Int)) ((m % 32 : Nat) : Int)) 1 = b := by
   rw [hshr, and_one hd0 hd1, hbit]
  have hset : (2 * (Y % 10) :: t).set (0 : Int).toNat (Go.bits .or .u32 (rd (2 * (Y % 10) :: t) 0) b) = (2 * (Y % 10) + b) :: t := by
   rw [show rd (2 * (Y % 10) :: t) 0 = 2 * (Y % 10) from rfl, or_low hR0 (by omega) hb]
   rfl
  have htr := trim_t (k + 3) (v := 2 * (Y % 10) + b) ht
  obtain ⟨c, hc, hc10⟩ := cmp_ten (k + 4) (v := 2 * (Y % 10) + b) (by omega)
  rw [hx8]
  rw [zU.l0, if_pos (by omega), hs, Option.bind_some, if_pos hlen, hdv, if_pos (by omega), if_pos hin, hmd, if_pos (by omega), hand, hset, htr, Option.bind_some, hc, Option.bind_some]
  have hwr : wrap64 ((m : Int) - 1) = (m : Int) - 1 := by unfold wrap64; omega
  by_cases hge : c ≥ 0
  ·have h10 := hc10.1 hge
   rw [if_pos hge, less_ten (k + 2) h10 (by omega), Option.bind_some, if_pos (by rw [hl]; exact hin), hwr, Int.toNat_natCast]
   obtain ⟨hd', hv'⟩ := qset hd (by omega) (m := m) (by omega) hv
   rw [show (2 * (Y % 10) + b - 10) = X / 2 ^ m % 10 by rw [hY]; omega]
   apply ih _ _ (by omega) (by omega) (by rw [List.length_set]; exact hl) hd'
   rw [hv', hv, hY, pw_s, show (2 * Y + b) / 10 = 2 * (Y / 10) + 1 by omega, Int.add_mul, Int.mul_comm 2 (2 ^ m), ← Int.mul_assoc, Int.mul_comm _ 2, ← Int.mul_assoc, Int.one_mul]
  ·have h10 : ¬ (2 * (Y % 10) + b ≥ 10) := fun h => hge (hc10.2 h)
   rw [if_neg hge, hwr, show (2 * (Y % 10) + b) = X / 2 ^ m % 10 by rw [hY]; omega]
   apply ih _ _ (by omega) (by omega) hl hd
   rw [hv, hY, pw_s, show (2 * Y + b) / 10 = 2 * (Y / 10) by omega, Int.mul_comm 2 (2 ^ m), ← Int.mul_assoc, Int.mul_comm _ 2, ← Int.mul_assoc]
theorem qZk : ∀ n : Nat, wv (List.replicate n 0) = 0
 | 0 => rfl
 | n + 1 => by rw [List.replicate_succ]; show 0 + 4294967296 * wv (List.replicate n 0) = 0; rw [qZk n]; omega
theorem By_ten {X : Int} (h0 : 0 ≤ X) (h1 : X < 18446744073709551616) {k : Nat} (hk : 70 ≤ k) : zU.f k false (ew X) false [10] = some (false, ew (X / 10), false, tr1 (X % 10)) := by
 have hl := zYl X
 unfold zU.f
 rw [if_pos (by omega), if_pos (by omega), Int.toNat_natCast]
 have hX : X / 2 ^ (32 * (ew X).length) = 0 := by
  apply Int.ediv_eq_zero_of_lt h0
  unfold ew tr2 tr1
  split
  ·split
   ·show X < 2 ^ 0
    simp; omega
   ·show X < 2 ^ 32
    rw [← p32]; omega
  ·show X < 2 ^ 64
   have e : (2 : Int) ^ 64 = 18446744073709551616 := by decide
   rw [e]; exact h1
 have := By_loop h0 h1 (32 * (ew X).length) k (List.replicate (ew X).length 0) (by omega) (Nat.le_refl _) (by simp) (by intro d hd; have := (List.mem_replicate.1 hd).2; omega) (by rw [qZk, hX]; simp)
 rw [hX, show tr1 (0 % 10) = [] from rfl, show (((32 * (ew X).length : Nat) : Int) - 1) = wrap64 (wrap64 (((ew X).length : Int) * 32) - 1) by unfold wrap64; omega] at this
 exact this
theorem zKj (l : List Int) : jS.f false l = some (if l.length = 0 then 0 else 1) := by
 unfold jS.f
 rw [if_neg (by decide)]
 by_cases h : l.length = 0
 ·rw [if_pos (by omega), if_pos h]
 ·rw [if_neg (by omega), if_neg h]
theorem e64 : (2 : Int) ^ 64 = 18446744073709551616 := by decide
theorem zWv {a : Int} (h0 : 0 ≤ a) (h1 : a < 4294967296) : Go.bits .or .u64 0 (shl .u64 (IntKind.u64.wrap a) 0) = a := by
 have es : shl .u64 (IntKind.u64.wrap a) 0 = a := by
  unfold shl
  rw [zCb h0 (by omega)]
  simp
  exact zCb h0 (by omega)
 rw [es, bits_join .u64 64 (by decide) wr64 32 0 a (by omega) (by simp) (by decide) h0 (by rw [← p32]; exact h1) (by rw [e64]; omega)]
 omega
theorem qWc {a b : Int} (h0 : 0 ≤ a) (h1 : a < 4294967296) (g0 : 0 ≤ b) (g1 : b < 2147483648) : Go.bits .or .u64 a (shl .u64 (IntKind.u64.wrap b) 32) = 4294967296 * b + a := by
 have es : shl .u64 (IntKind.u64.wrap b) 32 = 4294967296 * b := by
  unfold shl
  rw [zCb g0 (by omega), show (2 : Int) ^ min (Int.toNat 32) IntKind.u64.bits = 4294967296 by decide, zCb (by omega) (by omega)]
  omega
 have hc : Go.bits .or .u64 a (4294967296 * b) = Go.bits .or .u64 (4294967296 * b) a := by simp only [Go.bits, BitVec.or_comm]
 rw [es, hc, bits_join .u64 64 (by decide) wr64 32 (4294967296 * b) a (by omega) (by rw [← p32]; omega) (by rw [e64]; omega) h0 (by rw [← p32]; exact h1) (by rw [e64]; omega)]
theorem Int_ew {X : Int} (h0 : 0 ≤ X) (h1 : X ≤ 1000000000000000) (k : Nat) : qU.f (k + 3) false (ew X) 1000000000000000 = some (X, true) := by
 have hl := zYl X
 unfold qU.f
 rw [if_neg (by omega)]
 have hw : IntKind.u64.wrap 1000000000000000 = 1000000000000000 := zCb (by omega) (by omega)
 unfold ew tr2 tr1
 by_cases hb : X / 4294967296 = 0
 ·rw [if_pos hb]
  by_cases ha : X % 4294967296 = 0
  ·have : X = 0 := by omega
   subst this
   simp [qU.l0, hw, wz0]
  ·rw [if_neg ha, show X % 4294967296 = X by omega]
   have e1 := zWv (a := X) h0 (by omega)
   have e2 : ¬ X > 1000000000000000 := by omega
   have e3 : wrap64 X = X := by unfold wrap64; omega
   simp [qU.l0, rd, wz0, wz1, e1, hw, e2, e3]
 ·rw [if_neg hb]
  have e1 := zWv (a := X % 4294967296) (by omega) (by omega)
  have e2 : ¬ X > 1000000000000000 := by omega
  have e3 : wrap64 X = X := by unfold wrap64; omega
  have e4 : wrap64 32 = 32 := by unfold wrap64; omega
  have e5 := qWc (a := X % 4294967296) (b := X / 4294967296) (by omega) (by omega) (by omega) (by omega)
  rw [show 4294967296 * (X / 4294967296) + X % 4294967296 = X by omega] at e5
  simp [qU.l0, rd, wz0, wz1, wz2, e1, hw, e2, e3, e4, e5]
def nrm : Nat → Int → Int × Nat
 | 0, X => (X, 0)
 | p + 1, X => if X % 10 = 0 then nrm p (X / 10) else (X, p + 1)
theorem qKe : ∀ (p k : Nat) (X : Int), 0 ≤ X → X ≤ 1000000000000000 → 80 + p ≤ k → p ≤ 4 →
  jJ.l0 k (p : Int) false (ew X) false [10] = some ((nrm p X).1, ((nrm p X).2 : Int), 0) := by
 intro p
 have made : ∀ (k : Nat) (X : Int) (p : Nat), 0 ≤ X → X ≤ 1000000000000000 → 3 ≤ k → ((vW.f k false (ew X) (p : Int)).bind fun bt222 => (some (bt222.1, bt222.2.1, bt222.2.2))) = some (X, (p : Int), 0) := by
  intro k X p h0 h1 hk
  obtain ⟨k, rfl⟩ : ∃ j, k = j + 3 := ⟨k - 3, by omega⟩
  unfold vW.f
  rw [Int_ew h0 h1]
  rfl
 induction p with
 | zero =>
  intro k X h0 h1 hk _
  obtain ⟨k, rfl⟩ : ∃ j, k = j + 1 := ⟨k - 1, by omega⟩
  rw [jJ.l0, if_neg (by omega)]
  exact made k X 0 h0 h1 (by omega)
 | succ p ih =>
  intro k X h0 h1 hk hp
  obtain ⟨k, rfl⟩ : ∃ j, k = j + 1 := ⟨k - 1, by omega⟩
  rw [jJ.l0, if_pos (by omega), By_ten h0 (by omega) (by omega), Option.bind_some]
  unfold nrm
  by_cases hr : X % 10 = 0
  ·rw [if_pos hr]
   have hnn : ∀ l : List Int, ¬ ((if l.length = 0 then 0 else 1 : Int) < 0) := by intro l; split <;> omega
   rw [show tr1 (X % 10) = [] by simp [tr1, hr], zKj, Option.bind_some, if_pos (by rfl), zKj, Option.bind_some, if_neg (hnn _), show wrap64 (((p + 1 : Nat) : Int) - 1) = (p : Int) by unfold wrap64; omega]
   exact ih k (X / 10) (by omega) (by omega) (by omega) (by omega)
  ·rw [if_neg hr, show tr1 (X % 10) = [X % 10] by simp [tr1, hr], zKj, Option.bind_some, if_neg (by simp)]
   exact made k X (p + 1) h0 h1 (by omega)
theorem told_nrm {X : Int} (h0 : 0 ≤ X) (h1 : X ≤ 1000000000000000) {k : Nat} (hk : 100 ≤ k) : jk.f k X = some ((nrm 4 X).1, ((nrm 4 X).2 : Int)) := by
 have h := qKe 4 k X h0 h1 (by omega) (by omega)
 obtain ⟨k, rfl⟩ : ∃ j, k = j + 3 := ⟨k - 3, by omega⟩
 have h10 : ew 10 = [10] := by decide
 unfold jk.f xR.f jJ.f
 rw [qJw k h0 (by omega), Option.bind_some, qJw k (show (0 : Int) ≤ 10 by omega) (by omega), Option.bind_some, h10, show (4 : Int) = ((4 : Nat) : Int) from rfl, h]
 rfl
end Go.Proofs.YtaihfoihlbileaaGreatDoor.R7
namespace Go.Proofs.YtaihfoihlbileaaGreatDoor.R7
open Go.Sort Go.Proofs
variable {α : Type} [Inhabited α]
def uM (d : Array α) (a b : Nat) : Nat → Array α
 | 0 => d
 | i + 1 => swp (uM d a b i) (a + i) (b + i)
theorem xC (d : Array α) (a b : Nat) : ∀ i, (uM d a b i).size = d.size
 | 0 => rfl
 | i + 1 => by
  unfold uM
  rw [size_swp, xC d a b i]
def rotL (m i j : Nat) (d : Array α) : Array α :=
 if i = j then uM d (m - i) m i
 else if i = 0 ∨ j = 0 then d
 else if j < i then rotL m (i - j) j (uM d (m - i) m j)
 else rotL m i (j - i) (uM d (m - i) (m + j - i) i)
termination_by i + j
decreasing_by all_goals omega
def rotA (d : Array α) (a m b : Nat) : Array α := rotL m (m - a) (b - m) d
theorem qVw (m : Nat) : ∀ (n i j : Nat) (d : Array α), i + j ≤ n → (rotL m i j d).size = d.size := by
 intro n
 induction n with
 | zero =>
  intro i j d h
  obtain rfl : i = 0 := by omega
  obtain rfl : j = 0 := by omega
  rw [rotL, if_pos rfl]
  exact xC ..
 | succ n ih =>
  intro i j d h
  rw [rotL]
  split
  ·exact xC ..
  ·split
   ·rfl
   ·split
    ·rw [ih _ _ _ (by omega), xC]
    ·rw [ih _ _ _ (by omega), xC]
theorem yU (d : Array α) (a m b : Nat) : (rotA d a m b).size = d.size := qVw m _ _ _ d (Nat.le_refl _)
def bsL (p : Nat → Bool) (i j : Nat) : Nat :=
 if i < j then (if p ((i + j) / 2) = true then bsL p ((i + j) / 2 + 1) j else bsL p i ((i + j) / 2)) else i
termination_by j - i
decreasing_by all_goals omega
theorem qZm (p : Nat → Bool) : ∀ (n i j : Nat), j - i ≤ n → i ≤ j → i ≤ bsL p i j ∧ bsL p i j ≤ j := by
 intro n
 induction n with
 | zero =>
  intro i j h hij
  rw [bsL, if_neg (by omega)]
  omega
 | succ n ih =>
  intro i j h hij
  rw [bsL]
  split
  ·split
   ·have := ih ((i + j) / 2 + 1) j (by omega) (by omega)
    omega
   ·have := ih i ((i + j) / 2) (by omega) (by omega)
    omega
  ·omega
def yL (d : Array α) (a : Nat) : Nat → Array α
 | 0 => d
 | k + 1 => swp (yL d a k) (a + k) (a + k + 1)
def yC (d : Array α) (m : Nat) : Nat → Array α
 | 0 => d
 | k + 1 => swp (yC d m k) (m - k) (m - k - 1)
theorem yG (d : Array α) (a : Nat) : ∀ k, (yL d a k).size = d.size
 | 0 => rfl
 | k + 1 => by
  unfold yL
  rw [size_swp, yG d a k]
theorem yH (d : Array α) (m : Nat) : ∀ k, (yC d m k).size = d.size
 | 0 => rfl
 | k + 1 => by
  unfold yC
  rw [size_swp, yH d m k]
variable (cf : α → α → Int)
def symS (d : Array α) (a m b : Nat) : Nat :=
 bsL (fun c => !(decide (cf d[(a + b) / 2 + m - 1 - c]! d[c]! < 0))) (if (a + b) / 2 < m then (a + b) / 2 + m - b else a) (if (a + b) / 2 < m then (a + b) / 2 else m)
def symA (d : Array α) (a m b : Nat) : Array α :=
 if m - a = 1 then yL d a (bsL (fun h => decide (cf d[h]! d[a]! < 0)) m b - 1 - a)
 else if b - m = 1 then yC d m (m - bsL (fun h => !(decide (cf d[m]! d[h]! < 0))) a m)
 else
  let s := symS cf d a m b
  let e := (a + b) / 2 + m - s
  let d1 := if s < m ∧ m < e then rotA d s m e else d
  let d2 := if a < s ∧ s < (a + b) / 2 ∧ (a + b) / 2 < b then symA d1 a s ((a + b) / 2) else d1
  if (a + b) / 2 < e ∧ e < b ∧ a < (a + b) / 2 then symA d2 ((a + b) / 2) e b else d2
termination_by b - a
decreasing_by all_goals omega
theorem kS (d : Array α) (a m b : Nat) (h1 : ¬ m - a = 1) (h2 : ¬ b - m = 1) : symA cf d a m b =
  (if (a + b) / 2 < (a + b) / 2 + m - symS cf d a m b ∧ (a + b) / 2 + m - symS cf d a m b < b ∧ a < (a + b) / 2 then
   symA cf (if a < symS cf d a m b ∧ symS cf d a m b < (a + b) / 2 ∧ (a + b) / 2 < b then symA cf (if symS cf d a m b < m ∧ m < (a + b) / 2 + m - symS cf d a m b then rotA d (symS cf d a m b) m ((a + b) / 2 + m - symS cf d a m b) else d) a (symS cf d a m b) ((a + b) / 2) else (if symS cf d a m b < m ∧ m < (a + b) / 2 + m - symS cf d a m b then rotA d (symS cf d a m b) m ((a + b) / 2 + m - symS cf d a m b) else d)) ((a + b) / 2) ((a + b) / 2 + m - symS cf d a m b) b
  else (if a < symS cf d a m b ∧ symS cf d a m b < (a + b) / 2 ∧ (a + b) / 2 < b then symA cf (if symS cf d a m b < m ∧ m < (a + b) / 2 + m - symS cf d a m b then rotA d (symS cf d a m b) m ((a + b) / 2 + m - symS cf d a m b) else d) a (symS cf d a m b) ((a + b) / 2) else (if symS cf d a m b < m ∧ m < (a + b) / 2 + m - symS cf d a m b then rotA d (symS cf d a m b) m ((a + b) / 2 + m - symS cf d a m b) else d))) := by
 rw [symA, if_neg h1, if_neg h2]
theorem uC : ∀ (N a m b : Nat) (d : Array α), b - a ≤ N → (symA cf d a m b).size = d.size := by
 intro N
 induction N with
 | zero =>
  intro a m b d h
  by_cases h1 : m - a = 1
  ·rw [symA, if_pos h1, yG]
  ·by_cases h2 : b - m = 1
   ·rw [symA, if_neg h1, if_pos h2, yH]
   ·rw [kS cf d a m b h1 h2, if_neg (by omega), if_neg (by omega)]
    split
    ·exact yU ..
    ·rfl
 | succ N ih =>
  intro a m b d h
  by_cases h1 : m - a = 1
  ·rw [symA, if_pos h1, yG]
  ·by_cases h2 : b - m = 1
   ·rw [symA, if_neg h1, if_pos h2, yH]
   ·rw [kS cf d a m b h1 h2]
    have hr : ∀ (s e : Nat), (if s < m ∧ m < e then rotA d s m e else d).size = d.size := by
     intro s e
     split
     ·exact yU ..
     ·rfl
    have hl : ∀ (s : Nat) (x : Array α), x.size = d.size → (if a < s ∧ s < (a + b) / 2 ∧ (a + b) / 2 < b then symA cf x a s ((a + b) / 2) else x).size = d.size := by
     intro s x hx
     split
     ·rw [ih _ _ _ _ (by omega), hx]
     ·exact hx
    split
    ·rw [ih _ _ _ _ (by omega)]
     exact hl _ _ (hr _ _)
    ·exact hl _ _ (hr _ _)
def insB (n a : Nat) (d : Array α) : Array α :=
 if a + 20 ≤ n then insB n (a + 20) (insertionSort (ltOf cf) d a (a + 20)) else insertionSort (ltOf cf) d a n
termination_by n - a
decreasing_by omega
def mrgB (bs n a : Nat) (d : Array α) : Array α :=
 if 0 < bs ∧ a + 2 * bs ≤ n then mrgB bs n (a + 2 * bs) (symA cf d a (a + bs) (a + 2 * bs)) else if a + bs < n then symA cf d a (a + bs) n else d
termination_by n - a
decreasing_by omega
def kz (n bs : Nat) (d : Array α) : Array α :=
 if 0 < bs ∧ bs < n then kz n (bs * 2) (mrgB cf bs n 0 d) else d
termination_by n - bs
decreasing_by omega
def yT (d : Array α) : Array α := kz cf d.size 20 (insB cf d.size 0 d)
end Go.Proofs.YtaihfoihlbileaaGreatDoor.R7
namespace Go.Proofs.YtaihfoihlbileaaGreatDoor.R7
open Go Go.Proofs Go.Shelf Go.RowKit Go.Lib Go.Sort
variable {α : Type} [Inhabited α]
theorem zVf (enc : α → Value) (hO : OneCell enc) (blk off cap : Nat) (d : Array α) (a b n : Nat) (cmpv : Value) (w : World) (hH : Holds enc w blk off d) (ha : a + n ≤ d.size) (hb : b + n ≤ d.size) (hab : a ≠ b) (hsz : d.size < 4611686018427387904) :
  Calls Tryz.prog 110 #[.slice (some ⟨blk, off, none⟩) d.size cap, .int .i64 a, .int .i64 b, .int .i64 n, cmpv] w fun e w' => e = .returned (.tuple #[]) ∧ ∃ q, w' = (putRow enc w blk off (uM d a b n)).drewN q := by
 have hcl0 := hO.cells
 simp only [Value.cells] at hcl0
 have hst := hO.store Tryz.prog
 have HST : Hid (w = (putRow enc w blk off d).drewN 0) := (putRow_self enc w blk off d hH).symm
 have HH : Hid (Holds enc w blk off d) := hH
 clear hH
 go_enter Tryz.func110, Tryz.ntmps110
 go_wp2
 go_loopg [10] n (fun g1 vi wr => ∃ (i q : Nat), vi = .int .i64 i ∧ i ≤ n ∧ n - i ≤ g1 ∧ wr = (putRow enc w blk off (uM d a b i)).drewN q)
 case atStart => exact ⟨0, 0, by go_num, by omega, by omega, HST.out⟩
 case round =>
  obtain ⟨i, q, rfl, hi, hg1, rfl⟩ := hrel
  by_cases hlt : i < n
  ·have hltz : (i : Int) < (n : Int) := by omega
   have hsi := xC d a b i
   have hHi := holds_putRow enc w blk off d (uM d a b i) HH.out hsi
   obtain ⟨xa, hxa⟩ : ∃ x, (uM d a b i)[a + i]! = x := ⟨_, rfl⟩
   obtain ⟨xb, hxb⟩ : ∃ x, (uM d a b i)[b + i]! = x := ⟨_, rfl⟩
   obtain ⟨ca, fa⟩ := hHi (a + i) (by omega)
   obtain ⟨cb, fb⟩ := hHi (b + i) (by omega)
   rw [hxa] at ca
   rw [hxb] at cb
   clear hHi
   have ca' : ((putRow enc w blk off (uM d a b i)).drewN q).cell? ⟨blk, off + (a + i), none⟩ = some (enc xa) := ca
   have cb' : ((putRow enc w blk off (uM d a b i)).drewN q).cell? ⟨blk, off + (b + i), none⟩ = some (enc xb) := cb
   have fa' : ((putRow enc w blk off (uM d a b i)).drewN q).frozen? ⟨blk, off + (a + i), none⟩ = false := fa
   have fb' : ((putRow enc w blk off (uM d a b i)).drewN q).frozen? ⟨blk, off + (b + i), none⟩ = false := fb
   clear ca cb fa fb
   generalize hwq : (putRow enc w blk off (uM d a b i)).drewN q = wq at ca' cb' fa' fb' ⊢
   have HWQ : Hid (wq = (putRow enc w blk off (uM d a b i)).drewN q) := hwq.symm
   clear hwq
   have wa : IntKind.i64.wrap ((a : Int) + (i : Int)) = ((a + i : Nat) : Int) := by rw [IntKind.wrap_i64]; omega
   have wb : IntKind.i64.wrap ((b : Int) + (i : Int)) = ((b + i : Nat) : Int) := by rw [IntKind.wrap_i64]; omega
   have za : ((a + i : Nat) : Int) < (d.size : Int) := by omega
   have zb : ((b + i : Nat) : Int) < (d.size : Int) := by omega
   have pa : (0 : Int) ≤ ((a + i : Nat) : Int) := by omega
   have pb : (0 : Int) ≤ ((b + i : Nat) : Int) := by omega
   have ea : (((a + i : Nat) : Int)).toNat = a + i := by omega
   have eb : (((b + i : Nat) : Int)).toNat = b + i := by omega
   obtain ⟨p1, hp1⟩ : ∃ p, p = a + i := ⟨_, rfl⟩
   obtain ⟨p2, hp2⟩ : ∃ p, p = b + i := ⟨_, rfl⟩
   rw [← hp1] at ca' fa' wa za pa ea hxa
   rw [← hp2] at cb' fb' wb zb pb eb hxb
   have HP1 : Hid (p1 = a + i) := hp1
   have HP2 : Hid (p2 = b + i) := hp2
   clear hp1 hp2
   have hne : (⟨blk, off + p1, none⟩ : Addr) ≠ ⟨blk, off + p2, none⟩ := by
    intro e
    have h1 : off + p1 = off + p2 := congrArg Addr.off e
    have h2 := HP1.out
    have h3 := HP2.out
    omega
   have cb2 : (wq.setCell ⟨blk, off + p1, none⟩ (enc xb)).drew.cell? ⟨blk, off + p2, none⟩ = some (enc xb) := (World.cell?_setCell_other (w := wq) (v := enc xb) (h := hne)).trans cb'
   have fb2 : (wq.setCell ⟨blk, off + p1, none⟩ (enc xb)).drew.frozen? ⟨blk, off + p2, none⟩ = false := (World.frozen?_setCell ..).trans fb'
   go_wp2
   go_big_region
   all_goals go_wp2
   go_roundg (n - (i + 1))
   case measure => omega
   case rel =>
    refine ⟨i + 1, q + 1, by go_num, by omega, by omega, ?_⟩
    rw [HWQ.out, ← hxa, ← hxb, HP1.out, HP2.out]
    exact swap_worldC enc w blk off (uM d a b i) q (a + i) (b + i) (by omega) (by omega)
  ·have hltz : ¬ (i : Int) < (n : Int) := by omega
   obtain rfl : i = n := by omega
   go_wp2
   go_end0
   exact ⟨rfl, q, rfl⟩
theorem kJ (enc : α → Value) (w : World) (blk off : Nat) (d d' : Array α) (q q' : Nat) (h : d'.size = d.size) : (putRow enc ((putRow enc w blk off d).drewN q) blk off d').drewN q' = (putRow enc w blk off d').drewN (q + q') := by
 rw [show putRow enc ((putRow enc w blk off d).drewN q) blk off d' = (putRow enc (putRow enc w blk off d) blk off d').drewN q from rfl, putRow_putRow _ _ _ _ _ _ h, World.drewN_drewN]
theorem zZw (enc : α → Value) (w : World) (blk off : Nat) (d d' : Array α) (q : Nat) (hH : Holds enc w blk off d) (h : d'.size = d.size) : Holds enc ((putRow enc w blk off d').drewN q) blk off d' := fun j hj => holds_putRow enc w blk off d d' hH h j hj
theorem kT (enc : α → Value) (hO : OneCell enc) (blk off cap : Nat) (d dk : Array α) (a b n q : Nat) (cmpv : Value) (w : World) (hH : Holds enc w blk off d) (hs : dk.size = d.size) (ha : a + n ≤ d.size) (hb : b + n ≤ d.size) (hab : a ≠ b) (hsz : d.size < 4611686018427387904) :
  Calls Tryz.prog 110 #[.slice (some ⟨blk, off, none⟩) d.size cap, .int .i64 a, .int .i64 b, .int .i64 n, cmpv] ((putRow enc w blk off dk).drewN q) fun e w' => e = .returned (.tuple #[]) ∧ ∃ q', w' = (putRow enc w blk off (uM dk a b n)).drewN q' := by
 have h := zVf enc hO blk off cap dk a b n cmpv ((putRow enc w blk off dk).drewN q) (zZw enc w blk off d dk q hH hs) (by omega) (by omega) hab (by omega)
 rw [hs] at h
 refine h.mono fun e w' ⟨he, q', hw⟩ => ⟨he, q + q', ?_⟩
 rw [hw, kJ _ _ _ _ _ _ _ _ (xC ..)]
theorem zDq (enc : α → Value) (hO : OneCell enc) (blk off cap : Nat) (d : Array α) (a m b : Nat) (cmpv : Value) (w : World) (hH : Holds enc w blk off d) (ha : a < m) (hm : m < b) (hb : b ≤ d.size) (hsz : d.size < 4611686018427387904) :
  Calls Tryz.prog 99 #[.slice (some ⟨blk, off, none⟩) d.size cap, .int .i64 a, .int .i64 m, .int .i64 b, cmpv] w fun e w' => e = .returned (.tuple #[]) ∧ ∃ q, w' = (putRow enc w blk off (rotA d a m b)).drewN q := by
 have HST : Hid (w = (putRow enc w blk off d).drewN 0) := (putRow_self enc w blk off d hH).symm
 have HH : Hid (Holds enc w blk off d) := hH
 have wi : IntKind.i64.wrap ((m : Int) - (a : Int)) = ((m - a : Nat) : Int) := by rw [IntKind.wrap_i64]; omega
 have wj : IntKind.i64.wrap ((b : Int) - (m : Int)) = ((b - m : Nat) : Int) := by rw [IntKind.wrap_i64]; omega
 clear hH
 go_enter Tryz.func99, Tryz.ntmps99
 go_wp2
 go_loopg [10, 11] (b - a) (fun g1 vi vj wr => ∃ (i j q : Nat) (dk : Array α), vi = .int .i64 i ∧ vj = .int .i64 j ∧ 0 < i ∧ 0 < j ∧ i ≤ m ∧ m + j ≤ d.size ∧ i + j ≤ g1 ∧ dk.size = d.size ∧ wr = (putRow enc w blk off dk).drewN q ∧ Hid (rotL m i j dk = rotA d a m b))
 case atStart => exact ⟨m - a, b - m, 0, d, rfl, rfl, by omega, by omega, by omega, by omega, by omega, rfl, HST.out, rfl⟩
 case round =>
  obtain ⟨i, j, q, dk, rfl, rfl, hi, hj, him, hjm, hg1, hsk, rfl, HR⟩ := hrel
  clear wi wj
  have wmi : IntKind.i64.wrap ((m : Int) - (i : Int)) = ((m - i : Nat) : Int) := by rw [IntKind.wrap_i64]; omega
  by_cases hij : i = j
  ·subst hij
   have hc := kT enc hO blk off cap d dk (m - i) m i q cmpv w HH.out hsk (by omega) (by omega) (by omega) hsz
   generalize (putRow enc w blk off dk).drewN q = wq at hc ⊢
   go_wp2_with (go_at_call 110; refine hc.mono ?_; rintro e w' ⟨rfl, q', rfl⟩)
   go_end0
   refine ⟨rfl, q', ?_⟩
   rw [← HR.out, rotL, if_pos rfl]
  ·have hijz : ¬ (i : Int) = (j : Int) := by omega
   by_cases hlt : j < i
   ·have hltz : (j : Int) < (i : Int) := by omega
    have wij : IntKind.i64.wrap ((i : Int) - (j : Int)) = ((i - j : Nat) : Int) := by rw [IntKind.wrap_i64]; omega
    have hc := kT enc hO blk off cap d dk (m - i) m j q cmpv w HH.out hsk (by omega) (by omega) (by omega) hsz
    generalize (putRow enc w blk off dk).drewN q = wq at hc ⊢
    go_wp2_with (go_at_call 110; refine hc.mono ?_; rintro e w' ⟨rfl, q', rfl⟩)
    go_roundg (i - j + j)
    case measure => omega
    case rel =>
     refine ⟨i - j, j, q', uM dk (m - i) m j, rfl, rfl, by omega, hj, by omega, hjm, by omega, by rw [xC]; exact hsk, rfl, (show _ = _ from ?_)⟩
     rw [← HR.out, rotL.eq_1 m i j, if_neg hij, if_neg (by omega), if_pos hlt]
   ·have hltz : ¬ (j : Int) < (i : Int) := by omega
    have wij : IntKind.i64.wrap ((j : Int) - (i : Int)) = ((j - i : Nat) : Int) := by rw [IntKind.wrap_i64]; omega
    obtain ⟨mj, hmj⟩ : ∃ x, x = m + j := ⟨_, rfl⟩
    have wmj : IntKind.i64.wrap ((m : Int) + (j : Int)) = (mj : Int) := by rw [IntKind.wrap_i64]; omega
    have wmji : IntKind.i64.wrap ((mj : Int) - (i : Int)) = ((mj - i : Nat) : Int) := by rw [IntKind.wrap_i64]; omega
    have hc := kT enc hO blk off cap d dk (m - i) (mj - i) i q cmpv w HH.out hsk (by omega) (by omega) (by omega) hsz
    have HMJ : Hid (mj = m + j) := hmj
    clear hmj
    generalize (putRow enc w blk off dk).drewN q = wq at hc ⊢
    go_wp2_with (go_at_call 110; refine hc.mono ?_; rintro e w' ⟨rfl, q', rfl⟩)
    go_roundg (i + (j - i))
    case measure => omega
    case rel =>
     refine ⟨i, j - i, q', uM dk (m - i) (mj - i) i, rfl, rfl, hi, by omega, him, by omega, by omega, by rw [xC]; exact hsk, rfl, (show _ = _ from ?_)⟩
     rw [← HR.out, HMJ.out, rotL.eq_1 m i j, if_neg hij, if_neg (by omega), if_neg hlt]
end Go.Proofs.YtaihfoihlbileaaGreatDoor.R7
namespace Go.Proofs.YtaihfoihlbileaaGreatDoor.R7
open Go Go.Proofs Go.Shelf Go.RowKit Go.Lib Go.Sort
variable {α : Type} [Inhabited α]
theorem cmpAt {g : Nat} {cb : Array Value} {enc : α → Value} {cf : α → α → Int} {blk off : Nat} {d : Array α} {w : World} (hcmp : CmpReads Tryz.prog g cb enc cf blk off d.size w) (X : Array α) (x y : α) (hX : X.size = d.size) (m n : Nat) :
  Calls Tryz.prog g (#[enc x, enc y] ++ cb) (((putRow enc w blk off X).drewN m).drewN n) fun e w' => e = .returned (.int .i64 (cf x y)) ∧ ∃ q, w' = (((putRow enc w blk off X).drewN m).drewN n).drewN q := by
 have := hcmp (m + n) #[] X hX x y
 rw [sortWorld_none, ← World.drewN_drewN] at this
 exact this
theorem zBv (enc : α → Value) (hO : OneCell enc) (cf : α → α → Int) (g : Nat) (cb : Array Value) (blk off cap : Nat) (d dk : Array α) (a m b q : Nat) (w : World) (eg : ∀ args w, (callFunc g args).run Tryz.prog w = .ok (.enter g args) w) (hcmp : CmpReads Tryz.prog g cb enc cf blk off d.size w)
  (hH : Holds enc w blk off d) (hs : dk.size = d.size) (ha : m = a + 1) (hm : m < b) (hb : b ≤ d.size) (hsz : d.size < 4611686018427387904) :
  Calls Tryz.prog 85 #[.slice (some ⟨blk, off, none⟩) d.size cap, .int .i64 a, .int .i64 m, .int .i64 b, .func (.func g) #[] cb] ((putRow enc w blk off dk).drewN q) fun e w' => e = .returned (.tuple #[]) ∧ ∃ q, w' = (putRow enc w blk off (yL dk a (bsL (fun h => decide (cf dk[h]! dk[a]! < 0)) m b - 1 - a))).drewN q := by
 have HC : Aside _ := fun (X : Array α) x y hX m n => cmpAt hcmp X x y hX m n
 have HH : Hid (Holds enc w blk off d) := hH
 have wma : IntKind.i64.wrap ((m : Int) - (a : Int)) = 1 := by rw [IntKind.wrap_i64]; omega
 have hcl0 := hO.cells
 simp only [Value.cells] at hcl0
 have hst := hO.store Tryz.prog
 have hm1 : a < m := by omega
 have hm2 : m ≤ a + 1 := by omega
 clear hH hcmp ha
 go_enter Tryz.func85, Tryz.ntmps85
 go_wp2
 go_loopg [10, 11] b (fun g1 vi vj wr => ∃ (i j q1 : Nat), vi = .int .i64 i ∧ vj = .int .i64 j ∧ m ≤ i ∧ i ≤ j ∧ j ≤ b ∧ j - i ≤ g1 ∧ wr = (putRow enc w blk off dk).drewN q1 ∧ Hid (bsL (fun h => decide (cf dk[h]! dk[a]! < 0)) i j = bsL (fun h => decide (cf dk[h]! dk[a]! < 0)) m b))
 case atStart => exact ⟨m, b, q, rfl, rfl, Nat.le_refl _, by omega, Nat.le_refl _, by omega, rfl, rfl⟩
 case round =>
  obtain ⟨i, j, q1, rfl, rfl, hmi, hij, hjb, hg1, rfl, HB⟩ := hrel
  by_cases hlt : i < j
  ·have hltz : (i : Int) < (j : Int) := by omega
   obtain ⟨h, hh⟩ : ∃ h, h = (i + j) / 2 := ⟨_, rfl⟩
   have eh : Hid (((i : Int) + (j : Int)) / 2 = (h : Int)) := (by show _ = _; omega)
   have hih : i ≤ h := by omega
   have hhj : h < j := by omega
   obtain ⟨xh, hxh⟩ : ∃ x, dk[h]! = x := ⟨_, rfl⟩
   obtain ⟨xa, hxa⟩ : ∃ x, dk[a]! = x := ⟨_, rfl⟩
   have hHk := holds_putRow enc w blk off d dk HH.out hs
   obtain ⟨ch, fh⟩ := hHk h (by omega)
   obtain ⟨ca, fa⟩ := hHk a (by omega)
   rw [hxh] at ch
   rw [hxa] at ca
   have zh : (h : Int) < (d.size : Int) := by omega
   have za : (a : Int) < (d.size : Int) := by omega
   have ph : (0 : Int) ≤ (h : Int) := by omega
   have pa : (0 : Int) ≤ (a : Int) := by omega
   have hh2 : ((h : Int)).toNat = h := by omega
   have ha2 : ((a : Int)).toNat = a := by omega
   have ch' : ((putRow enc w blk off dk).drewN q1).cell? ⟨blk, off + h, none⟩ = some (enc xh) := ch
   have ca' : ((putRow enc w blk off dk).drewN q1).cell? ⟨blk, off + a, none⟩ = some (enc xa) := ca
   have hc := HC.out dk xh xa hs q1
   clear hHk ch ca fh fa
   have HHH : Hid (h = (i + j) / 2) := hh
   clear hh
   go_wp2
   rw [eh.out]
   generalize hwq : (putRow enc w blk off dk).drewN q1 = wq at ch' ca' hc ⊢
   by_cases hlv : cf xh xa < 0
   ·go_wp2_with fail
    go_quiet (first | (go_at_fn g; refine Calls.quiet_of (hc _)))
    go_wp2_with fail
    go_roundg (j - (h + 1))
    case measure => omega
    case rel =>
     refine ⟨h + 1, j, q1 + nq, by go_num, rfl, by omega, by omega, hjb, Nat.le_refl _, by rw [← hwq, World.drewN_drewN], (show _ = _ from ?_)⟩
     rw [← HB.out, bsL.eq_1 _ i j, if_pos hlt, ← HHH.out, if_pos (by rw [hxh, hxa]; exact decide_eq_true hlv)]
   ·go_wp2_with fail
    go_quiet (first | (go_at_fn g; refine Calls.quiet_of (hc _)))
    go_wp2_with fail
    go_roundg (h - i)
    case measure => omega
    case rel =>
     refine ⟨i, h, q1 + nq, rfl, rfl, hmi, hih, by omega, Nat.le_refl _, by rw [← hwq, World.drewN_drewN], (show _ = _ from ?_)⟩
     rw [← HB.out, bsL.eq_1 _ i j, if_pos hlt, ← HHH.out, if_neg (by rw [hxh, hxa]; simpa using hlv)]
  ·have hltz : ¬ (i : Int) < (j : Int) := by omega
   obtain rfl : i = j := by omega
   have ht : Hid (bsL (fun h => decide (cf dk[h]! dk[a]! < 0)) m b = i) := by
    show _ = _
    rw [← HB.out, bsL, if_neg (by omega)]
   clear HB hg1
   go_wp2
   go_loopg [13] (i - 1 - a) (fun g2 vk wr2 => ∃ (k c q2 : Nat), vk = .int .i64 c ∧ Hid (c = a + k) ∧ k ≤ i - 1 - a ∧ i - 1 - a - k ≤ g2 ∧ wr2 = (putRow enc w blk off (yL dk a k)).drewN q2)
   case atStart => exact ⟨0, a, q1, rfl, rfl, by omega, by omega, rfl⟩
   case round =>
    obtain ⟨k, c, q2, rfl, HCK, hk, hg2, rfl⟩ := hrel
    have hck := HCK.out
    by_cases hlt2 : c < i - 1
    ·have hltz2 : (c : Int) < (i : Int) - 1 := by omega
     have hki : a + k < i - 1 := by omega
     have hsk : (yL dk a k).size = d.size := by rw [yG, hs]
     have hHk := holds_putRow enc w blk off d (yL dk a k) HH.out hsk
     obtain ⟨x1, hx1⟩ : ∃ x, (yL dk a k)[c]! = x := ⟨_, rfl⟩
     obtain ⟨x2, hx2⟩ : ∃ x, (yL dk a k)[c + 1]! = x := ⟨_, rfl⟩
     obtain ⟨c1, f1⟩ := hHk c (by omega)
     obtain ⟨c2, f2⟩ := hHk (c + 1) (by omega)
     rw [hx1] at c1
     rw [hx2] at c2
     have c1' : ((putRow enc w blk off (yL dk a k)).drewN q2).cell? ⟨blk, off + c, none⟩ = some (enc x1) := c1
     have c2' : ((putRow enc w blk off (yL dk a k)).drewN q2).cell? ⟨blk, off + (c + 1), none⟩ = some (enc x2) := c2
     have f1' : ((putRow enc w blk off (yL dk a k)).drewN q2).frozen? ⟨blk, off + c, none⟩ = false := f1
     have f2' : ((putRow enc w blk off (yL dk a k)).drewN q2).frozen? ⟨blk, off + (c + 1), none⟩ = false := f2
     clear hHk c1 c2 f1 f2
     obtain ⟨p2, hp2⟩ : ∃ p, p = c + 1 := ⟨_, rfl⟩
     have wp : IntKind.i64.wrap ((c : Int) + 1) = (p2 : Int) := by rw [IntKind.wrap_i64]; omega
     have z1 : (c : Int) < (d.size : Int) := by omega
     have z2 : (p2 : Int) < (d.size : Int) := by omega
     have e1 : ((c : Int)).toNat = c := by omega
     have e2 : ((p2 : Int)).toNat = p2 := by omega
     have n1 : (0 : Int) ≤ (c : Int) := by omega
     have n2 : (0 : Int) ≤ (p2 : Int) := by omega
     rw [← hp2] at c2' f2' hx2
     generalize hwq : (putRow enc w blk off (yL dk a k)).drewN q2 = wq at c1' c2' f1' f2' ⊢
     have HWQ : Hid (wq = (putRow enc w blk off (yL dk a k)).drewN q2) := hwq.symm
     have hne : (⟨blk, off + c, none⟩ : Addr) ≠ ⟨blk, off + p2, none⟩ := by
      intro e
      have h1 : off + c = off + p2 := congrArg Addr.off e
      omega
     have c3 : (wq.setCell ⟨blk, off + c, none⟩ (enc x2)).drew.cell? ⟨blk, off + p2, none⟩ = some (enc x2) := (World.cell?_setCell_other (w := wq) (v := enc x2) (h := hne)).trans c2'
     have f3 : (wq.setCell ⟨blk, off + c, none⟩ (enc x2)).drew.frozen? ⟨blk, off + p2, none⟩ = false := (World.frozen?_setCell ..).trans f2'
     have HP2 : Hid (p2 = c + 1) := hp2
     clear hwq hp2 hck
     go_wp2
     go_big_region
     all_goals go_wp2
     go_roundg (i - 1 - a - (k + 1))
     case measure => omega
     case rel =>
      have hck := HCK.out
      have hp2 := HP2.out
      refine ⟨k + 1, c + 1, q2 + 1, by go_num, (show _ = _ from by omega), by omega, Nat.le_refl _, ?_⟩
      rw [HWQ.out, ← hx1, ← hx2, HP2.out]
      have := swap_worldC enc w blk off (yL dk a k) q2 c (c + 1) (by omega) (by omega)
      rw [this, hck]
      rfl
    ·have hltz2 : ¬ (c : Int) < (i : Int) - 1 := by omega
     obtain rfl : k = i - 1 - a := by omega
     go_wp2
     (try simp only [Exit.inBlock, Exit.then]); refine bodyPost_ret (results_none rfl _ _ _) rfl ?_
     exact ⟨rfl, q2, by rw [ht.out]⟩
theorem zXd (enc : α → Value) (hO : OneCell enc) (cf : α → α → Int) (g : Nat) (cb : Array Value) (blk off cap : Nat) (d dk : Array α) (a m b q : Nat) (w : World) (eg : ∀ args w, (callFunc g args).run Tryz.prog w = .ok (.enter g args) w) (hcmp : CmpReads Tryz.prog g cb enc cf blk off d.size w)
  (hH : Holds enc w blk off d) (hs : dk.size = d.size) (ha : b = m + 1) (hm : a + 1 < m) (hb : b ≤ d.size) (hsz : d.size < 4611686018427387904) :
  Calls Tryz.prog 85 #[.slice (some ⟨blk, off, none⟩) d.size cap, .int .i64 a, .int .i64 m, .int .i64 b, .func (.func g) #[] cb] ((putRow enc w blk off dk).drewN q) fun e w' => e = .returned (.tuple #[]) ∧ ∃ q, w' = (putRow enc w blk off (yC dk m (m - bsL (fun h => !(decide (cf dk[m]! dk[h]! < 0))) a m))).drewN q := by
 have HC : Aside _ := fun (X : Array α) x y hX m n => cmpAt hcmp X x y hX m n
 have HH : Hid (Holds enc w blk off d) := hH
 have wma : ¬ ((m : Int) - (a : Int)) = 1 := by omega
 have wbm : IntKind.i64.wrap ((b : Int) - (m : Int)) = 1 := by rw [IntKind.wrap_i64]; omega
 have hcl0 := hO.cells
 simp only [Value.cells] at hcl0
 have hst := hO.store Tryz.prog
 have hm1 : m < b := by omega
 have hm2 : b ≤ m + 1 := by omega
 clear hH hcmp ha
 go_enter Tryz.func85, Tryz.ntmps85
 have fma : (((m : Int) - (a : Int)) == 1) = false := beq_eq_false_iff_ne.2 wma
 go_wp2
 try rw [fma]
 clear wma wbm fma
 go_loopg [14, 15] m (fun g1 vi vj wr => ∃ (i j q1 : Nat), vi = .int .i64 i ∧ vj = .int .i64 j ∧ a ≤ i ∧ i ≤ j ∧ j ≤ m ∧ j - i ≤ g1 ∧ wr = (putRow enc w blk off dk).drewN q1 ∧ Hid (bsL (fun h => !(decide (cf dk[m]! dk[h]! < 0))) i j = bsL (fun h => !(decide (cf dk[m]! dk[h]! < 0))) a m))
 case atStart => exact ⟨a, m, q, rfl, rfl, Nat.le_refl _, by omega, Nat.le_refl _, by omega, rfl, rfl⟩
 case round =>
  obtain ⟨i, j, q1, rfl, rfl, hai, hij, hjm, hg1, rfl, HB⟩ := hrel
  by_cases hlt : i < j
  ·have hltz : (i : Int) < (j : Int) := by omega
   obtain ⟨h, hh⟩ : ∃ h, h = (i + j) / 2 := ⟨_, rfl⟩
   have eh : Hid (((i : Int) + (j : Int)) / 2 = (h : Int)) := (by show _ = _; omega)
   have hih : i ≤ h := by omega
   have hhj : h < j := by omega
   obtain ⟨xh, hxh⟩ : ∃ x, dk[h]! = x := ⟨_, rfl⟩
   obtain ⟨xa, hxa⟩ : ∃ x, dk[m]! = x := ⟨_, rfl⟩
   have hHk := holds_putRow enc w blk off d dk HH.out hs
   obtain ⟨ch, fh⟩ := hHk h (by omega)
   obtain ⟨ca, fa⟩ := hHk m (by omega)
   rw [hxh] at ch
   rw [hxa] at ca
   have zh : (h : Int) < (d.size : Int) := by omega
   have za : (m : Int) < (d.size : Int) := by omega
   have ph : (0 : Int) ≤ (h : Int) := by omega
   have pa : (0 : Int) ≤ (m : Int) := by omega
   have hh2 : ((h : Int)).toNat = h := by omega
   have ha2 : ((m : Int)).toNat = m := by omega
   have ch' : ((putRow enc w blk off dk).drewN q1).cell? ⟨blk, off + h, none⟩ = some (enc xh) := ch
   have ca' : ((putRow enc w blk off dk).drewN q1).cell? ⟨blk, off + m, none⟩ = some (enc xa) := ca
   have hc := HC.out dk xa xh hs q1
   clear hHk ch ca fh fa
   have HHH : Hid (h = (i + j) / 2) := hh
   clear hh
   go_wp2
   rw [eh.out]
   generalize hwq : (putRow enc w blk off dk).drewN q1 = wq at ch' ca' hc ⊢
   by_cases hlv : ¬ cf xa xh < 0
   ·have hlz : decide (cf xa xh < 0) = false := decide_eq_false hlv
    go_wp2_with fail
    go_quiet (first | (go_at_fn g; refine Calls.quiet_of (hc _)))
    go_wp2_with fail
    go_roundg (j - (h + 1))
    case measure => omega
    case rel =>
     refine ⟨h + 1, j, q1 + nq, by go_num, rfl, by omega, by omega, hjm, Nat.le_refl _, by rw [← hwq, World.drewN_drewN], (show _ = _ from ?_)⟩
     rw [← HB.out, bsL.eq_1 _ i j, if_pos hlt, ← HHH.out, if_pos (by rw [hxh, hxa]; simpa using hlv)]
   ·have hlv := Decidable.not_not.1 hlv
    have hlz : decide (cf xa xh < 0) = true := decide_eq_true hlv
    go_wp2_with fail
    go_quiet (first | (go_at_fn g; refine Calls.quiet_of (hc _)))
    go_wp2_with fail
    go_roundg (h - i)
    case measure => omega
    case rel =>
     refine ⟨i, h, q1 + nq, rfl, rfl, hai, hih, by omega, Nat.le_refl _, by rw [← hwq, World.drewN_drewN], (show _ = _ from ?_)⟩
     rw [← HB.out, bsL.eq_1 _ i j, if_pos hlt, ← HHH.out, if_neg (by rw [hxh, hxa]; simpa using hlv)]
  ·have hltz : ¬ (i : Int) < (j : Int) := by omega
   obtain rfl : i = j := by omega
   have ht : Hid (bsL (fun h => !(decide (cf dk[m]! dk[h]! < 0))) a m = i) := by
    show _ = _
    rw [← HB.out, bsL, if_neg (by omega)]
   clear HB hg1
   go_wp2
   go_loopg [17] (m - i) (fun g2 vk wr2 => ∃ (k c q2 : Nat), vk = .int .i64 c ∧ Hid (c + k = m) ∧ k ≤ m - i ∧ m - i - k ≤ g2 ∧ wr2 = (putRow enc w blk off (yC dk m k)).drewN q2)
   case atStart => exact ⟨0, m, q1, rfl, rfl, by omega, by omega, rfl⟩
   case round =>
    obtain ⟨k, c, q2, rfl, HCK, hk, hg2, rfl⟩ := hrel
    have hck := HCK.out
    by_cases hlt2 : i < c
    ·have hki : i + k < m := by omega
     obtain ⟨p2, hp2⟩ : ∃ p, c = p + 1 := ⟨c - 1, by omega⟩
     have hsk : (yC dk m k).size = d.size := by rw [yH, hs]
     have hHk := holds_putRow enc w blk off d (yC dk m k) HH.out hsk
     obtain ⟨x1, hx1⟩ : ∃ x, (yC dk m k)[c]! = x := ⟨_, rfl⟩
     obtain ⟨x2, hx2⟩ : ∃ x, (yC dk m k)[p2]! = x := ⟨_, rfl⟩
     obtain ⟨c1, f1⟩ := hHk c (by omega)
     obtain ⟨c2, f2⟩ := hHk p2 (by omega)
     rw [hx1] at c1
     rw [hx2] at c2
     have c1' : ((putRow enc w blk off (yC dk m k)).drewN q2).cell? ⟨blk, off + c, none⟩ = some (enc x1) := c1
     have c2' : ((putRow enc w blk off (yC dk m k)).drewN q2).cell? ⟨blk, off + p2, none⟩ = some (enc x2) := c2
     have f1' : ((putRow enc w blk off (yC dk m k)).drewN q2).frozen? ⟨blk, off + c, none⟩ = false := f1
     have f2' : ((putRow enc w blk off (yC dk m k)).drewN q2).frozen? ⟨blk, off + p2, none⟩ = false := f2
     clear hHk c1 c2 f1 f2
     have hltz2 : (i : Int) < (c : Int) := by omega
     have wp : IntKind.i64.wrap ((c : Int) - 1) = (p2 : Int) := by rw [IntKind.wrap_i64]; omega
     have z1 : (c : Int) < (d.size : Int) := by omega
     have z2 : (p2 : Int) < (d.size : Int) := by omega
     have e1 : ((c : Int)).toNat = c := by omega
     have e2 : ((p2 : Int)).toNat = p2 := by omega
     have n1 : (0 : Int) ≤ (c : Int) := by omega
     have n2 : (0 : Int) ≤ (p2 : Int) := by omega
     generalize hwq : (putRow enc w blk off (yC dk m k)).drewN q2 = wq at c1' c2' f1' f2' ⊢
     have HWQ : Hid (wq = (putRow enc w blk off (yC dk m k)).drewN q2) := hwq.symm
     have hne : (⟨blk, off + c, none⟩ : Addr) ≠ ⟨blk, off + p2, none⟩ := by
      intro e
      have h1 : off + c = off + p2 := congrArg Addr.off e
      omega
     have c3 : (wq.setCell ⟨blk, off + c, none⟩ (enc x2)).drew.cell? ⟨blk, off + p2, none⟩ = some (enc x2) := (World.cell?_setCell_other (w := wq) (v := enc x2) (h := hne)).trans c2'
     have f3 : (wq.setCell ⟨blk, off + c, none⟩ (enc x2)).drew.frozen? ⟨blk, off + p2, none⟩ = false := (World.frozen?_setCell ..).trans f2'
     have HP2 : Hid (c = p2 + 1) := hp2
     clear hwq hp2 hck
     go_wp2
     go_big_region
     all_goals go_wp2
     go_roundg (m - i - (k + 1))
     case measure => omega
     case rel =>
      have hck := HCK.out
      have hp2 := HP2.out
      refine ⟨k + 1, p2, q2 + 1, by go_num, (show _ = _ from by omega), by omega, Nat.le_refl _, ?_⟩
      rw [HWQ.out, ← hx1, ← hx2]
      have := swap_worldC enc w blk off (yC dk m k) q2 c p2 (by omega) (by omega)
      rw [this]
      show _ = (putRow enc w blk off (swp (yC dk m k) (m - k) (m - k - 1))).drewN (q2 + 1)
      rw [show m - k = c by omega, show c - 1 = p2 by omega]
    ·have hltz2 : ¬ (i : Int) < (c : Int) := by omega
     obtain rfl : k = m - i := by omega
     go_wp2
     (try simp only [Exit.inBlock, Exit.then]); refine bodyPost_ret (results_none rfl _ _ _) rfl ?_
     exact ⟨rfl, q2, by rw [ht.out]⟩
end Go.Proofs.YtaihfoihlbileaaGreatDoor.R7
namespace Go.Proofs.YtaihfoihlbileaaGreatDoor.R7
open Go Go.Proofs Go.Shelf Go.RowKit Go.Lib Go.Sort
variable {α : Type} [Inhabited α]
theorem zDz (enc : α → Value) (hO : OneCell enc) (blk off cap : Nat) (d dk : Array α) (a m b q : Nat) (cmpv : Value) (w : World) (hH : Holds enc w blk off d) (hs : dk.size = d.size) (ha : a < m) (hm : m < b) (hb : b ≤ d.size) (hsz : d.size < 4611686018427387904) :
  Calls Tryz.prog 99 #[.slice (some ⟨blk, off, none⟩) d.size cap, .int .i64 a, .int .i64 m, .int .i64 b, cmpv] ((putRow enc w blk off dk).drewN q) fun e w' => e = .returned (.tuple #[]) ∧ ∃ q', w' = (putRow enc w blk off (rotA dk a m b)).drewN q' := by
 have h := zDq enc hO blk off cap dk a m b cmpv ((putRow enc w blk off dk).drewN q) (zZw enc w blk off d dk q hH hs) ha hm (by omega) (by omega)
 rw [hs] at h
 refine h.mono fun e w' ⟨he, q', hw⟩ => ⟨he, q + q', ?_⟩
 rw [hw, kJ _ _ _ _ _ _ _ _ (yU ..)]
theorem zBk (enc : α → Value) (hO : OneCell enc) (cf : α → α → Int) (g : Nat) (cb : Array Value) (blk off cap : Nat) (d dk : Array α) (a m b q : Nat) (w : World) (eg : ∀ args w, (callFunc g args).run Tryz.prog w = .ok (.enter g args) w) (hcmp : CmpReads Tryz.prog g cb enc cf blk off d.size w)
    (hH : Holds enc w blk off d) (hs : dk.size = d.size) (ha : a + 1 < m) (hm : m + 1 < b) (hb : b ≤ d.size) (hsz : d.size < 4611686018427387904)
    (hIH : ∀ (a' m' b' q' : Nat) (dk' : Array α), b' - a' < b - a → a' < m' → m' < b' → b' ≤ d.size → dk'.size = d.size → Calls Tryz.prog 85 #[.slice (some ⟨blk, off, none⟩) d.size cap, .int .i64 a', .int .i64 m', .int .i64 b', .func (.func g) #[] cb] ((putRow enc w blk off dk').drewN q') fun e w' => e = .returned (.tuple #[]) ∧ ∃ q, w' = (putRow enc w blk off (symA cf dk' a' m' b')).drewN q) :
    Calls Tryz.prog 85 #[.slice (some ⟨blk, off, none⟩) d.size cap, .int .i64 a, .int .i64 m, .int .i64 b, .func (.func g) #[] cb] ((putRow enc w blk off dk).drewN q) fun e w' => e = .returned (.tuple #[]) ∧ ∃ q, w' = (putRow enc w blk off (symA cf dk a m b)).drewN q := by
  have HC : Aside _ := fun (X : Array α) x y hX m n => cmpAt hcmp X x y hX m n
  have HH : Hid (Holds enc w blk off d) := hH
  have HI : Aside _ := hIH
  have wma : ¬ ((m : Int) - (a : Int)) = 1 := by omega
  have wbm : ¬ ((b : Int) - (m : Int)) = 1 := by omega
  have fma : (((m : Int) - (a : Int)) == 1) = false := beq_eq_false_iff_ne.2 wma
  have fbm : (((b : Int) - (m : Int)) == 1) = false := beq_eq_false_iff_ne.2 wbm
  have hcl0 := hO.cells
  simp only [Value.cells] at hcl0
  have hst := hO.store Tryz.prog
  obtain ⟨mid, hmid⟩ : ∃ x, x = (a + b) / 2 := ⟨_, rfl⟩
  obtain ⟨n, hn⟩ : ∃ x, x = mid + m := ⟨_, rfl⟩
  obtain ⟨p, hp⟩ : ∃ x, x + 1 = n := ⟨n - 1, by omega⟩
  have hmb : mid + 1 < b := by omega
  have ham : a + 1 < mid + 1 := by omega
  have emid : Hid (((a : Int) + (b : Int)) / 2 = (mid : Int)) := (by show _ = _; omega)
  have en : Hid ((mid : Int) + (m : Int) = (n : Int)) := (by show _ = _; omega)
  have ep : Hid ((n : Int) - 1 = (p : Int)) := (by show _ = _; omega)
  have hnlt : n < 9223372036854775808 := by omega
  have HM : Hid (mid = (a + b) / 2) := hmid
  have HN : Hid (n = mid + m) := hn
  have HP : Hid (p + 1 = n) := hp
  clear hH hcmp hIH hmid hn hp
  by_cases hc : mid < m
  · have hcz : ((a : Int) + (b : Int)) / 2 < (m : Int) := by
      have := emid.out
      omega
    obtain ⟨s0, hs0⟩ : ∃ x, x + b = n := ⟨n - b, by have := HN.out; have := HM.out; omega⟩
    have es0 : Hid ((n : Int) - (b : Int) = (s0 : Int)) := (by show _ = _; omega)
    have HS0 : Hid (s0 + b = n) := hs0
    clear hs0
    go_enter Tryz.func85, Tryz.ntmps85
    go_wp2
    rw [emid.out, en.out, ep.out]
    rw [es0.out]
    clear hcz fma fbm wma wbm
    go_loopg [20, 21] b (fun g1 vi vj wr => ∃ (i j q1 : Nat), vi = .int .i64 i ∧ vj = .int .i64 j ∧ s0 ≤ i ∧ i ≤ j ∧ j ≤ mid ∧ j - i ≤ g1 ∧ wr = (putRow enc w blk off dk).drewN q1 ∧ Hid (bsL (fun c => !(decide (cf dk[p - c]! dk[c]! < 0))) i j = bsL (fun c => !(decide (cf dk[p - c]! dk[c]! < 0))) s0 mid))
    case atStart =>
      have h1 := HM.out
      have h2 := HN.out
      have h3 := HS0.out
      exact ⟨s0, mid, q, rfl, rfl, Nat.le_refl _, by omega, Nat.le_refl _, by omega, rfl, rfl⟩
    case round =>
      obtain ⟨i, j, q1, rfl, rfl, hai, hij, hjm, hg1, rfl, HB⟩ := hrel
      by_cases hlt : i < j
      · have hltz : (i : Int) < (j : Int) := by omega
        obtain ⟨h, hh⟩ : ∃ h, h = (i + j) / 2 := ⟨_, rfl⟩
        have eh : Hid (((i : Int) + (j : Int)) / 2 = (h : Int)) := (by show _ = _; omega)
        have hih : i ≤ h := by omega
        have hhj : h < j := by omega
        obtain ⟨pc, hpc⟩ : ∃ x, x + h = p := ⟨p - h, by have h1 := HM.out; have h2 := HN.out; have h3 := HP.out; omega⟩
        have hpb : pc < b := by
          have h1 := HM.out
          have h2 := HN.out
          have h3 := HP.out
          have h4 := HS0.out
          omega
        have epc : Hid ((p : Int) - (h : Int) = (pc : Int)) := (by show _ = _; omega)
        have wpc : IntKind.i64.wrap ((p : Int) - (h : Int)) = (pc : Int) := by rw [IntKind.wrap_i64]; omega
        have hpc2 : p - h = pc := by omega
        have hhb : h < b := by have h1 := HM.out; omega
        obtain ⟨xh, hxh⟩ : ∃ x, dk[h]! = x := ⟨_, rfl⟩
        obtain ⟨xa, hxa⟩ : ∃ x, dk[pc]! = x := ⟨_, rfl⟩
        have hHk := holds_putRow enc w blk off d dk HH.out hs
        obtain ⟨ch, fh⟩ := hHk h (by omega)
        obtain ⟨ca, fa⟩ := hHk pc (by omega)
        rw [hxh] at ch
        rw [hxa] at ca
        have zh : (h : Int) < (d.size : Int) := by omega
        have za : (pc : Int) < (d.size : Int) := by omega
        have ph : (0 : Int) ≤ (h : Int) := by omega
        have pa : (0 : Int) ≤ (pc : Int) := by omega
        have hh2 : ((h : Int)).toNat = h := by omega
        have ha2 : ((pc : Int)).toNat = pc := by omega
        have ch' : ((putRow enc w blk off dk).drewN q1).cell? ⟨blk, off + h, none⟩ = some (enc xh) := ch
        have ca' : ((putRow enc w blk off dk).drewN q1).cell? ⟨blk, off + pc, none⟩ = some (enc xa) := ca
        have hc := HC.out dk xa xh hs q1
        have HHH : Hid (h = (i + j) / 2) := hh
        have HPC : Hid (p - h = pc) := hpc2
        clear hHk ch ca fh fa hh hpc hpc2
        go_wp2
        rw [eh.out]
        generalize hwq : (putRow enc w blk off dk).drewN q1 = wq at ch' ca' hc ⊢
        by_cases hlv : ¬ cf xa xh < 0
        · have hlz : decide (cf xa xh < 0) = false := decide_eq_false hlv
          go_wp2_with fail
          go_quiet (first | (go_at_fn g; refine Calls.quiet_of (hc _)))
          go_wp2_with fail
          go_roundg (j - (h + 1))
          case measure => omega
          case rel =>
            refine ⟨h + 1, j, q1 + nq, by go_num, rfl, by omega, by omega, hjm, Nat.le_refl _, by rw [← hwq, World.drewN_drewN], (show _ = _ from ?_)⟩
            rw [← HB.out, bsL.eq_1 _ i j, if_pos hlt, ← HHH.out, if_pos (by rw [HPC.out, hxh, hxa]; simpa using hlv)]
        · have hlv := Decidable.not_not.1 hlv
          have hlz : decide (cf xa xh < 0) = true := decide_eq_true hlv
          go_wp2_with fail
          go_quiet (first | (go_at_fn g; refine Calls.quiet_of (hc _)))
          go_wp2_with fail
          go_roundg (h - i)
          case measure => omega
          case rel =>
            refine ⟨i, h, q1 + nq, rfl, rfl, hai, hih, by omega, Nat.le_refl _, by rw [← hwq, World.drewN_drewN], (show _ = _ from ?_)⟩
            rw [← HB.out, bsL.eq_1 _ i j, if_pos hlt, ← HHH.out, if_neg (by rw [HPC.out, hxh, hxa]; simpa using hlv)]
      · have hltz : ¬ (i : Int) < (j : Int) := by omega
        obtain rfl : i = j := by omega
        have hsy : Hid (symS cf dk a m b = i) := by
          show _ = _
          have h1 := HM.out
          have h2 := HN.out
          have h3 := HP.out
          have e1 : (a + b) / 2 + m - 1 = p := by omega
          have e2 := HB.out
          rw [bsL, if_neg (by omega)] at e2
          unfold symS
          rw [e1, if_pos (by omega), if_pos (by omega)]
          have h4 := HS0.out
          rw [← h1, show mid + m - b = s0 by omega]
          exact e2.symm
        clear HB hg1
        obtain ⟨e, hen⟩ : ∃ x, x + i = n := ⟨n - i, by have h1 := HM.out; have h2 := HN.out; omega⟩
        have wen : IntKind.i64.wrap ((n : Int) - (i : Int)) = (e : Int) := by rw [IntKind.wrap_i64]; omega
        have hei : e + i = mid + m := by have := HN.out; omega
        have hEN : Hid (e + i = mid + m) := hei
        have hmid2 := HM.out
        have he1 : (i < m ∧ m < e) ↔ (i < m ∧ i < mid) := by omega
        have heb : s0 ≤ i := hai
        have hbe : e ≤ b := by
          have h2 := HN.out
          have h4 := HS0.out
          omega
        by_cases x1 : (i : Int) < (m : Int) <;> by_cases x2 : (m : Int) < (e : Int) <;> by_cases x3 : (a : Int) < (i : Int) <;> by_cases x6 : (e : Int) < (b : Int) <;> first
          | (exfalso; omega)
          | (have x4 : ((i : Int) < (mid : Int)) = ((m : Int) < (e : Int)) := by (apply propext; omega)
             have x5 : ((mid : Int) < (e : Int)) = ((i : Int) < (m : Int)) := by (apply propext; omega)
             clear hen hei he1 hmid2
             go_wp2_with (first
               | (go_at_call 99; (with_reducible refine (zDz enc hO blk off cap d dk i m e _ _ w HH.out hs (by omega) (by omega) (by omega) hsz).mono ?_); rintro e' w' ⟨rfl, q3, rfl⟩)
               | (go_at_call 85; (with_reducible refine (HI.out a i mid _ _ (by have := HM.out; omega) (by omega) (by have := hEN.out; omega) (by omega) (by first | exact hs | exact (yU ..).trans hs)).mono ?_); rintro e' w' ⟨rfl, q4, rfl⟩)
               | (go_at_call 85; (with_reducible refine (HI.out mid e b _ _ (by have := HM.out; omega) (by have := hEN.out; omega) (by omega) (by omega) (by first | exact hs | exact (yU ..).trans hs | exact (uC cf _ _ _ _ _ (Nat.le_refl _)).trans hs | exact (uC cf _ _ _ _ _ (Nat.le_refl _)).trans ((yU ..).trans hs))).mono ?_); rintro e' w' ⟨rfl, q5, rfl⟩))
             go_end0
             refine ⟨rfl, _, congrArg (fun X => (putRow enc w blk off X).drewN _) ?_⟩
             have hE := hEN.out
             have hmid2 := HM.out
             rw [kS cf dk a m b (by omega) (by omega), hsy.out, ← hmid2, show mid + m - i = e by omega]
             (first | rw [if_pos (show mid < e ∧ e < b ∧ a < mid by omega)] | rw [if_neg (show ¬ (mid < e ∧ e < b ∧ a < mid) by omega)])
             (first | rw [if_pos (show a < i ∧ i < mid ∧ mid < b by omega)] | rw [if_neg (show ¬ (a < i ∧ i < mid ∧ mid < b) by omega)])
             (first | rw [if_pos (show i < m ∧ m < e by omega)] | rw [if_neg (show ¬ (i < m ∧ m < e) by omega)]))
  · have hcz : ¬ ((a : Int) + (b : Int)) / 2 < (m : Int) := by
      have := emid.out
      omega
    go_enter Tryz.func85, Tryz.ntmps85
    go_wp2
    rw [emid.out, en.out, ep.out]
    clear hcz fma fbm wma wbm
    go_loopg [20, 21] b (fun g1 vi vj wr => ∃ (i j q1 : Nat), vi = .int .i64 i ∧ vj = .int .i64 j ∧ a ≤ i ∧ i ≤ j ∧ j ≤ m ∧ j - i ≤ g1 ∧ wr = (putRow enc w blk off dk).drewN q1 ∧ Hid (bsL (fun c => !(decide (cf dk[p - c]! dk[c]! < 0))) i j = bsL (fun c => !(decide (cf dk[p - c]! dk[c]! < 0))) a m))
    case atStart =>
      have h1 := HM.out
      have h2 := HN.out
      exact ⟨a, m, q, rfl, rfl, Nat.le_refl _, by omega, Nat.le_refl _, by omega, rfl, rfl⟩
    case round =>
      obtain ⟨i, j, q1, rfl, rfl, hai, hij, hjm, hg1, rfl, HB⟩ := hrel
      by_cases hlt : i < j
      · have hltz : (i : Int) < (j : Int) := by omega
        obtain ⟨h, hh⟩ : ∃ h, h = (i + j) / 2 := ⟨_, rfl⟩
        have eh : Hid (((i : Int) + (j : Int)) / 2 = (h : Int)) := (by show _ = _; omega)
        have hih : i ≤ h := by omega
        have hhj : h < j := by omega
        obtain ⟨pc, hpc⟩ : ∃ x, x + h = p := ⟨p - h, by have h1 := HM.out; have h2 := HN.out; have h3 := HP.out; omega⟩
        have hpb : pc < b := by
          have h1 := HM.out
          have h2 := HN.out
          have h3 := HP.out
          omega
        have epc : Hid ((p : Int) - (h : Int) = (pc : Int)) := (by show _ = _; omega)
        have wpc : IntKind.i64.wrap ((p : Int) - (h : Int)) = (pc : Int) := by rw [IntKind.wrap_i64]; omega
        have hpc2 : p - h = pc := by omega
        have hhb : h < b := by have h1 := HM.out; omega
        obtain ⟨xh, hxh⟩ : ∃ x, dk[h]! = x := ⟨_, rfl⟩
        obtain ⟨xa, hxa⟩ : ∃ x, dk[pc]! = x := ⟨_, rfl⟩
        have hHk := holds_putRow enc w blk off d dk HH.out hs
        obtain ⟨ch, fh⟩ := hHk h (by omega)
        obtain ⟨ca, fa⟩ := hHk pc (by omega)
        rw [hxh] at ch
        rw [hxa] at ca
        have zh : (h : Int) < (d.size : Int) := by omega
        have za : (pc : Int) < (d.size : Int) := by omega
        have ph : (0 : Int) ≤ (h : Int) := by omega
        have pa : (0 : Int) ≤ (pc : Int) := by omega
        have hh2 : ((h : Int)).toNat = h := by omega
        have ha2 : ((pc : Int)).toNat = pc := by omega
        have ch' : ((putRow enc w blk off dk).drewN q1).cell? ⟨blk, off + h, none⟩ = some (enc xh) := ch
        have ca' : ((putRow enc w blk off dk).drewN q1).cell? ⟨blk, off + pc, none⟩ = some (enc xa) := ca
        have hc := HC.out dk xa xh hs q1
        have HHH : Hid (h = (i + j) / 2) := hh
        have HPC : Hid (p - h = pc) := hpc2
        clear hHk ch ca fh fa hh hpc hpc2
        go_wp2
        rw [eh.out]
        generalize hwq : (putRow enc w blk off dk).drewN q1 = wq at ch' ca' hc ⊢
        by_cases hlv : ¬ cf xa xh < 0
        · have hlz : decide (cf xa xh < 0) = false := decide_eq_false hlv
          go_wp2_with fail
          go_quiet (first | (go_at_fn g; refine Calls.quiet_of (hc _)))
          go_wp2_with fail
          go_roundg (j - (h + 1))
          case measure => omega
          case rel =>
            refine ⟨h + 1, j, q1 + nq, by go_num, rfl, by omega, by omega, hjm, Nat.le_refl _, by rw [← hwq, World.drewN_drewN], (show _ = _ from ?_)⟩
            rw [← HB.out, bsL.eq_1 _ i j, if_pos hlt, ← HHH.out, if_pos (by rw [HPC.out, hxh, hxa]; simpa using hlv)]
        · have hlv := Decidable.not_not.1 hlv
          have hlz : decide (cf xa xh < 0) = true := decide_eq_true hlv
          go_wp2_with fail
          go_quiet (first | (go_at_fn g; refine Calls.quiet_of (hc _)))
          go_wp2_with fail
          go_roundg (h - i)
          case measure => omega
          case rel =>
            refine ⟨i, h, q1 + nq, rfl, rfl, hai, hih, by omega, Nat.le_refl _, by rw [← hwq, World.drewN_drewN], (show _ = _ from ?_)⟩
            rw [← HB.out, bsL.eq_1 _ i j, if_pos hlt, ← HHH.out, if_neg (by rw [HPC.out, hxh, hxa]; simpa using hlv)]
      · have hltz : ¬ (i : Int) < (j : Int) := by omega
        obtain rfl : i = j := by omega
        have hsy : Hid (symS cf dk a m b = i) := by
          show _ = _
          have h1 := HM.out
          have h2 := HN.out
          have h3 := HP.out
          have e1 : (a + b) / 2 + m - 1 = p := by omega
          have e2 := HB.out
          rw [bsL, if_neg (by omega)] at e2
          unfold symS
          rw [e1, if_neg (by omega), if_neg (by omega)]
          exact e2.symm
        clear HB hg1
        obtain ⟨e, hen⟩ : ∃ x, x + i = n := ⟨n - i, by have h1 := HM.out; have h2 := HN.out; omega⟩
        have wen : IntKind.i64.wrap ((n : Int) - (i : Int)) = (e : Int) := by rw [IntKind.wrap_i64]; omega
        have hei : e + i = mid + m := by have := HN.out; omega
        have hEN : Hid (e + i = mid + m) := hei
        have hmid2 := HM.out
        have he1 : (i < m ∧ m < e) ↔ (i < m ∧ i < mid) := by omega
        have heb : a ≤ i := hai
        have hbe : e ≤ b := by
          have h2 := HN.out
          omega
        by_cases x1 : (i : Int) < (m : Int) <;> by_cases x2 : (m : Int) < (e : Int) <;> by_cases x3 : (a : Int) < (i : Int) <;> by_cases x6 : (e : Int) < (b : Int) <;> first
          | (exfalso; omega)
          | (have x4 : ((i : Int) < (mid : Int)) = ((m : Int) < (e : Int)) := by (apply propext; omega)
             have x5 : ((mid : Int) < (e : Int)) = ((i : Int) < (m : Int)) := by (apply propext; omega)
             clear hen hei he1 hmid2
             go_wp2_with (first
               | (go_at_call 99; (with_reducible refine (zDz enc hO blk off cap d dk i m e _ _ w HH.out hs (by omega) (by omega) (by omega) hsz).mono ?_); rintro e' w' ⟨rfl, q3, rfl⟩)
               | (go_at_call 85; (with_reducible refine (HI.out a i mid _ _ (by have := HM.out; omega) (by omega) (by have := hEN.out; omega) (by omega) (by first | exact hs | exact (yU ..).trans hs)).mono ?_); rintro e' w' ⟨rfl, q4, rfl⟩)
               | (go_at_call 85; (with_reducible refine (HI.out mid e b _ _ (by have := HM.out; omega) (by have := hEN.out; omega) (by omega) (by omega) (by first | exact hs | exact (yU ..).trans hs | exact (uC cf _ _ _ _ _ (Nat.le_refl _)).trans hs | exact (uC cf _ _ _ _ _ (Nat.le_refl _)).trans ((yU ..).trans hs))).mono ?_); rintro e' w' ⟨rfl, q5, rfl⟩))
             go_end0
             refine ⟨rfl, _, congrArg (fun X => (putRow enc w blk off X).drewN _) ?_⟩
             have hE := hEN.out
             have hmid2 := HM.out
             rw [kS cf dk a m b (by omega) (by omega), hsy.out, ← hmid2, show mid + m - i = e by omega]
             (first | rw [if_pos (show mid < e ∧ e < b ∧ a < mid by omega)] | rw [if_neg (show ¬ (mid < e ∧ e < b ∧ a < mid) by omega)])
             (first | rw [if_pos (show a < i ∧ i < mid ∧ mid < b by omega)] | rw [if_neg (show ¬ (a < i ∧ i < mid ∧ mid < b) by omega)])
             (first | rw [if_pos (show i < m ∧ m < e by omega)] | rw [if_neg (show ¬ (i < m ∧ m < e) by omega)]))
end Go.Proofs.YtaihfoihlbileaaGreatDoor.R7
namespace Go.Proofs
open Go.Shelf
def Tryz.zBh : Go.Shelf.Ren := ⟨fun | 20 => 84 | n => n, fun | 24 => 60 | 22 => 57 | 3 => 3 | 25 => 85 | 4 => 4 | 0 => 0 | n => n, fun | n => n⟩
theorem Tryz.qWn : Go.Proofs.SlLaysF.n20 Tryz.prog Tryz.zBh := {
 mixed := by kernel_rfl
 f20 := ⟨Tryz.f84.name, by decide, Tryz.func84.trans (congrArg some (by kernel_rfl))⟩
 t0 := Tryz.underlying0
 a0 := Tryz.isAgg0
 z0 := Tryz.sizeOf0
 v0 := Tryz.zeroValue0
 t3 := Tryz.underlying3
 a3 := Tryz.isAgg3
 z3 := Tryz.sizeOf3
 v3 := Tryz.zeroValue3
 t4 := Tryz.underlying4
 a4 := Tryz.isAgg4
 z4 := Tryz.sizeOf4
 v4 := Tryz.zeroValue4
 t22 := Tryz.underlying57
 a22 := Tryz.isAgg57
 z22 := Tryz.sizeOf57
 v22 := Tryz.zeroValue57
 a24 := Tryz.isAgg60
 z24 := Tryz.sizeOf60
 t25 := Tryz.underlying85
 a25 := Tryz.isAgg85
 z25 := Tryz.sizeOf85
 v25 := Tryz.zeroValue85 }
end Go.Proofs
namespace Go.Proofs.YtaihfoihlbileaaGreatDoor.R7
open Go Go.Proofs Go.Shelf Go.RowKit Go.Lib Go.Sort
variable {α : Type} [Inhabited α]
theorem zXm {g : Nat} {cb : Array Value} {enc : α → Value} {cf : α → α → Int} {blk off : Nat} {d dk : Array α} {w : World} (q : Nat) (hs : dk.size = d.size) (hcmp : CmpReads Tryz.prog g cb enc cf blk off d.size w) : CmpReads Tryz.prog g cb enc cf blk off dk.size ((putRow enc w blk off dk).drewN q) := by
 intro m os X hX x y
 have h := hcmp (q + m) os X (hX.trans hs) x y
 have e : sortWorld enc ((putRow enc w blk off dk).drewN q) blk off m X os = sortWorld enc w blk off (q + m) X os := by
  show grow ((putRow enc ((putRow enc w blk off dk).drewN q) blk off X).drewN m) os = grow ((putRow enc w blk off X).drewN (q + m)) os
  rw [kJ _ _ _ _ _ _ _ _ hX]
 rw [e]
 exact h
theorem zZn (lt : α → α → Bool) (a : Nat) : ∀ (j : Nat) (d : Array α), (insInner lt a j d).size = d.size
 | 0, d => rfl
 | j + 1, d => by
  unfold insInner
  split
  ·rw [zZn lt a j, size_swp]
  ·rfl
theorem zBl (lt : α → α → Bool) (a b : Nat) : ∀ (n i : Nat) (d : Array α), b - i ≤ n → (insOuter lt a b i d).size = d.size := by
 intro n
 induction n with
 | zero =>
  intro i d h
  rw [insOuter_stop _ _ _ _ _ (by omega)]
 | succ n ih =>
  intro i d h
  by_cases hi : i < b
  ·rw [insOuter_go _ _ _ _ _ hi, ih _ _ (by omega), zZn]
  ·rw [insOuter_stop _ _ _ _ _ hi]
theorem xP (lt : α → α → Bool) (d : Array α) (a b : Nat) : (insertionSort lt d a b).size = d.size := zBl lt a b _ _ d (Nat.le_refl _)
section
variable (enc : α → Value) (hO : OneCell enc) (cf : α → α → Int) (g : Nat) (cb : Array Value) (blk off cap : Nat) (d : Array α) (w : World) (eg : ∀ args w, (callFunc g args).run Tryz.prog w = .ok (.enter g args) w) (hcmp : CmpReads Tryz.prog g cb enc cf blk off d.size w) (hH : Holds enc w blk off d) (hsz : d.size < 2305843009213693952)
include hO eg hcmp hH hsz
theorem zEe : ∀ (N a m b q : Nat) (dk : Array α), b - a ≤ N → a < m → m < b → b ≤ d.size → dk.size = d.size → Calls Tryz.prog 85 #[.slice (some ⟨blk, off, none⟩) d.size cap, .int .i64 a, .int .i64 m, .int .i64 b, .func (.func g) #[] cb] ((putRow enc w blk off dk).drewN q) fun e w' => e = .returned (.tuple #[]) ∧ ∃ q, w' = (putRow enc w blk off (symA cf dk a m b)).drewN q := by
 intro N
 induction N with
 | zero =>
  intro a m b q dk h ha hm hb hs
  omega
 | succ N ih =>
  intro a m b q dk h ha hm hb hs
  by_cases h1 : m = a + 1
  ·have := zBv enc hO cf g cb blk off cap d dk a m b q w eg hcmp hH hs h1 hm hb (by omega)
   rw [symA, if_pos (by omega)]
   exact this
  ·by_cases h2 : b = m + 1
   ·have := zXd enc hO cf g cb blk off cap d dk a m b q w eg hcmp hH hs h2 (by omega) hb (by omega)
    rw [symA, if_neg (by omega), if_pos (by omega)]
    exact this
   ·exact zBk enc hO cf g cb blk off cap d dk a m b q w eg hcmp hH hs (by omega) (by omega) hb (by omega) (fun a' m' b' q' dk' h3 h4 h5 h6 h7 => ih a' m' b' q' dk' (by omega) h4 h5 h6 h7)
theorem zEz (a b q : Nat) (dk : Array α) (hab : a ≤ b) (hb : b ≤ d.size) (hs : dk.size = d.size) : Calls Tryz.prog 84 #[.slice (some ⟨blk, off, none⟩) d.size cap, .int .i64 a, .int .i64 b, .func (.func g) #[] cb] ((putRow enc w blk off dk).drewN q) fun e w' => e = .returned (.tuple #[]) ∧ ∃ q, w' = (putRow enc w blk off (insertionSort (ltOf cf) dk a b)).drewN q := by
 have h := Any.insertionSortCmpFunc_one Tryz.qWn enc hO cf g cb blk off cap a b dk ((putRow enc w blk off dk).drewN q) eg (zXm q hs hcmp) (zZw enc w blk off d dk q hH hs) hab (by omega) (by omega)
 rw [hs] at h
 refine h.mono fun e w' ⟨he, n, hw⟩ => ⟨he, q + n, ?_⟩
 rw [hw, kJ _ _ _ _ _ _ _ _ (xP ..)]
end
end Go.Proofs.YtaihfoihlbileaaGreatDoor.R7
namespace Go.Proofs.YtaihfoihlbileaaGreatDoor.R7
open Go Go.Proofs Go.Shelf Go.RowKit Go.Lib Go.Sort
variable {α : Type} [Inhabited α]
theorem qXw (cf : α → α → Int) (n : Nat) : ∀ (k a : Nat) (d : Array α), n - a ≤ k → (insB cf n a d).size = d.size := by
 intro k
 induction k with
 | zero =>
  intro a d h
  rw [insB, if_neg (by omega), xP]
 | succ k ih =>
  intro a d h
  rw [insB]
  split
  ·rw [ih _ _ (by omega), xP]
  ·rw [xP]
theorem qWf (cf : α → α → Int) (bs n : Nat) : ∀ (k a : Nat) (d : Array α), n - a ≤ k → (mrgB cf bs n a d).size = d.size := by
 intro k
 induction k with
 | zero =>
  intro a d h
  rw [mrgB, if_neg (by omega), if_neg (by omega)]
 | succ k ih =>
  intro a d h
  rw [mrgB]
  split
  ·rw [ih _ _ (by omega), uC cf _ _ _ _ _ (Nat.le_refl _)]
  ·split
   ·rw [uC cf _ _ _ _ _ (Nat.le_refl _)]
   ·rfl
theorem zEf (cf : α → α → Int) (n : Nat) : ∀ (k bs : Nat) (d : Array α), n - bs ≤ k → (kz cf n bs d).size = d.size := by
 intro k
 induction k with
 | zero =>
  intro bs d h
  rw [kz, if_neg (by omega)]
 | succ k ih =>
  intro bs d h
  rw [kz]
  split
  ·rw [ih _ _ (by omega), qWf cf _ _ _ _ _ (Nat.le_refl _)]
  ·rfl
section
variable (enc : α → Value) (hO : OneCell enc) (cf : α → α → Int) (g : Nat) (cb : Array Value) (blk off cap : Nat) (d : Array α) (w : World) (eg : ∀ args w, (callFunc g args).run Tryz.prog w = .ok (.enter g args) w) (hcmp : CmpReads Tryz.prog g cb enc cf blk off d.size w) (hH : Holds enc w blk off d) (hsz : d.size < 2305843009213693952)
include hO eg hcmp hH hsz
theorem zCf : Calls Tryz.prog 66 #[.slice (some ⟨blk, off, none⟩) d.size cap, .int .i64 d.size, .func (.func g) #[] cb] w fun e w' => e = .returned (.tuple #[]) ∧ ∃ q, w' = (putRow enc w blk off (yT cf d)).drewN q := by
 have HI : Aside _ := fun a b q dk hab hb hs => zEz enc hO cf g cb blk off cap d w eg hcmp hH hsz a b q dk hab hb hs
 have HSM : Aside _ := fun a m b q dk ha hm hb hs => zEe enc hO cf g cb blk off cap d w eg hcmp hH hsz (b - a) a m b q dk (Nat.le_refl _) ha hm hb hs
 have HST : Hid (w = (putRow enc w blk off d).drewN 0) := (putRow_self enc w blk off d hH).symm
 obtain ⟨n, hn⟩ : ∃ n, n = d.size := ⟨_, rfl⟩
 have HN : Hid (n = d.size) := hn
 have hnz : n < 2305843009213693952 := by omega
 rw [← hn] at HI HSM ⊢
 clear hcmp hH hn hsz
 go_enter Tryz.func66, Tryz.ntmps66
 go_wp2
 go_loopg [7, 8] n (fun g1 va vb wr => ∃ (a b q1 : Nat) (dk : Array α), va = .int .i64 a ∧ vb = .int .i64 b ∧ Hid (b = a + 20) ∧ a ≤ n ∧ n - a ≤ g1 ∧ Hid (dk.size = n) ∧ wr = (putRow enc w blk off dk).drewN q1 ∧ Hid (insB cf n a dk = insB cf n 0 d))
 case atStart => exact ⟨0, 20, 0, d, by go_num, by go_num, rfl, by omega, by omega, HN.out.symm, HST.out, rfl⟩
 case round =>
  obtain ⟨a, b, q1, dk, rfl, rfl, HB, han, hg1, HS, rfl, HR⟩ := hrel
  have hab : a < b := by have := HB.out; omega
  by_cases hlt : b ≤ n
  ·have hltz : (b : Int) ≤ (n : Int) := by omega
   go_wp2_with (go_at_call 84; (with_reducible refine (HI.out a b q1 dk (by omega) (by have := HN.out; omega) HS.out).mono ?_); rintro e' w' ⟨rfl, q2, rfl⟩)
   go_roundg (n - b)
   case measure => omega
   case rel =>
    refine ⟨b, b + 20, q2, insertionSort (ltOf cf) dk a b, rfl, by go_num, rfl, hlt, Nat.le_refl _, (show _ = _ from (xP ..).trans HS.out), rfl, (show _ = _ from ?_)⟩
    have hb := HB.out
    rw [← HR.out, insB.eq_1 cf n a, if_pos (by omega), hb]
  ·have hltz : ¬ (b : Int) ≤ (n : Int) := by omega
   go_wp2_with (go_at_call 84; (with_reducible refine (HI.out a n q1 dk (by omega) (by have := HN.out; omega) HS.out).mono ?_); rintro e' w' ⟨rfl, q2, rfl⟩)
   have HI0 : Hid (insertionSort (ltOf cf) dk a n = insB cf n 0 d) := by
    show _ = _
    have hb := HB.out
    rw [← HR.out, insB.eq_1 cf n a, if_neg (by omega)]
   have HS2 : Hid ((insertionSort (ltOf cf) dk a n).size = n) := (xP ..).trans HS.out
   generalize insertionSort (ltOf cf) dk a n = d1 at HI0 HS2 ⊢
   clear HR HS HB hltz hlt hab han hg1
   go_loopg [6] n (fun g2 vs wr => ∃ (bs q3 : Nat) (dj : Array α), vs = .int .i64 bs ∧ 0 < bs ∧ bs ≤ n + n + 20 ∧ n - bs ≤ g2 ∧ Hid (dj.size = n) ∧ wr = (putRow enc w blk off dj).drewN q3 ∧ Hid (kz cf n bs dj = kz cf n 20 d1))
   case atStart => exact ⟨20, q2, d1, by go_num, by omega, by omega, by omega, HS2, rfl, rfl⟩
   case round =>
    obtain ⟨bs, q3, dj, rfl, hbs0, hbs1, hg2, HSJ, rfl, HM⟩ := hrel
    by_cases hlt : bs < n
    ·have hltz : (bs : Int) < (n : Int) := by omega
     go_wp2
     go_loopg [7, 8] n (fun g3 va vb wr => ∃ (a b q4 : Nat) (dm : Array α), va = .int .i64 a ∧ vb = .int .i64 b ∧ Hid (b = a + 2 * bs) ∧ a ≤ n ∧ n - a ≤ g3 ∧ Hid (dm.size = n) ∧ wr = (putRow enc w blk off dm).drewN q4 ∧ Hid (mrgB cf bs n a dm = mrgB cf bs n 0 dj))
     case atStart => exact ⟨0, 2 * bs, q3, dj, by go_num, by first | rfl | go_num | (simp; done), (show _ = _ by omega), by omega, by omega, HSJ, rfl, rfl⟩
     case round =>
      obtain ⟨a, b, q4, dm, rfl, rfl, HB, han, hg3, HSM2, rfl, HR⟩ := hrel
      have hab : a + 2 * bs = b := HB.out.symm
      obtain ⟨m, hm⟩ : ∃ m, a + bs = m := ⟨_, rfl⟩
      have wm : IntKind.i64.wrap ((a : Int) + (bs : Int)) = (m : Int) := by rw [IntKind.wrap_i64]; omega
      have HMM : Hid (a + bs = m) := hm
      by_cases hlt2 : b ≤ n
      ·have hltz2 : (b : Int) ≤ (n : Int) := by omega
       have hc := HSM.out a m b q4 dm (by omega) (by omega) hlt2 HSM2.out
       clear hm hab
       go_wp2_with (go_at_call 85; (with_reducible refine hc.mono ?_); rintro e' w' ⟨rfl, q5, rfl⟩)
       go_roundg (n - b)
       case measure => have := HB.out; omega
       case rel =>
        have hb := HB.out
        have hm := HMM.out
        refine ⟨b, b + 2 * bs, q5, symA cf dm a m b, rfl, by first | rfl | go_num | (simp; done), rfl, hlt2, Nat.le_refl _, (show _ = _ from (uC cf _ _ _ _ _ (Nat.le_refl _)).trans HSM2.out), rfl, (show _ = _ from ?_)⟩
        rw [← HR.out, mrgB.eq_1 cf bs n a, if_pos (by omega), hm, ← hb]
      ·have hltz2 : ¬ (b : Int) ≤ (n : Int) := by omega
       by_cases hlt3 : m < n
       ·have hltz3 : (m : Int) < (n : Int) := by omega
        have hc := HSM.out a m n q4 dm (by omega) hlt3 (Nat.le_refl _) HSM2.out
        clear hm hab
        go_wp2_with (go_at_call 85; (with_reducible refine hc.mono ?_); rintro e' w' ⟨rfl, q5, rfl⟩)
        go_roundg (n - bs * 2)
        case measure => omega
        case rel =>
         have hb := HB.out
         have hm := HMM.out
         refine ⟨bs * 2, q5, symA cf dm a m n, by first | rfl | go_num | (simp; done), by omega, by omega, Nat.le_refl _, (show _ = _ from (uC cf _ _ _ _ _ (Nat.le_refl _)).trans HSM2.out), rfl, (show _ = _ from ?_)⟩
         rw [← HM.out, kz.eq_1 cf n bs dj, if_pos ⟨hbs0, hlt⟩, ← HR.out, mrgB.eq_1 cf bs n a, if_neg (by omega), if_pos (by omega), hm]
       ·have hltz3 : ¬ (m : Int) < (n : Int) := by omega
        clear hm hab
        go_wp2
        go_roundg (n - bs * 2)
        case measure => omega
        case rel =>
         have hb := HB.out
         have hm := HMM.out
         refine ⟨bs * 2, q4, dm, by first | rfl | go_num | (simp; done), by omega, by omega, Nat.le_refl _, HSM2, rfl, (show _ = _ from ?_)⟩
         rw [← HM.out, kz.eq_1 cf n bs dj, if_pos ⟨hbs0, hlt⟩, ← HR.out, mrgB.eq_1 cf bs n a, if_neg (by omega), if_neg (by omega)]
    ·have hltz : ¬ (bs : Int) < (n : Int) := by omega
     go_wp2
     go_end0
     refine ⟨rfl, q3, ?_⟩
     have hn := HN.out
     unfold yT
     rw [← hn, ← HI0.out, ← HM.out, kz, if_neg (by omega)]
theorem zKn : Calls Tryz.prog 45 #[.slice (some ⟨blk, off, none⟩) d.size cap, .func (.func g) #[] cb] w fun e w' => e = .returned (.tuple #[]) ∧ ∃ q, w' = (putRow enc w blk off (yT cf d)).drewN q := by
 have h := zCf enc hO cf g cb blk off cap d w eg hcmp hH hsz
 clear hcmp hH
 go_enter Tryz.func45, Tryz.ntmps45
 go_wp2_with (go_at_call 66; (with_reducible refine h.mono ?_); rintro e' w' ⟨rfl, q5, rfl⟩)
 go_end0
 exact ⟨rfl, q5, rfl⟩
end
theorem zKb (cf : α → α → Int) (d : Array α) : (yT cf d).size = d.size := by
 unfold yT
 rw [zEf cf _ _ _ _ (Nat.le_refl _), qXw cf _ _ _ _ (Nat.le_refl _)]
end Go.Proofs.YtaihfoihlbileaaGreatDoor.R7
namespace Go.Proofs.YtaihfoihlbileaaGreatDoor.R7
open Go Go.Proofs Go.RowKit Go.Sort Go.Proofs.YtaihfoihlbileaaGreatDoorW.PrintWords Go.Proofs.YtaihfoihlbileaaGreatDoorW.PrintLast Go.Proofs.YtaihfoihlbileaaGreatDoorW.PrintMore
structure DS where
 nm : ByteArray
 day : Int
 units : Int
 places : Int
 days : Int
 within : Int
 disc : Int
 owes : Int
 paid : Int
 taken : Int
 done : Int
def DS.obj (x : DS) : Obj := .cells #[.string x.nm, .int .i64 x.day, .int .i64 x.units, .int .i64 x.places, .int .i64 x.days, .int .i64 x.within, .int .i64 x.disc, .int .i64 x.owes, .int .i64 x.paid, .int .i64 x.taken, .int .i64 x.done] 62 (0, 0)
def DS.last (x : DS) : Int := wrap64 (x.day + x.days)
theorem zYg (g : Nat) (x : DS) (w : World) (HG : w.heap[g]? = some x.obj) :
  Calls Tryz.prog 47 #[.pointer (some ⟨g, 0, none⟩)] w fun e w' => e = .returned (.int .i64 x.last) ∧ w' = w.drewN 1 := by
 have c1 := ky HG
 have c4 := zJv HG
 obtain ⟨r, hr⟩ : ∃ r, r = x.last := ⟨_, rfl⟩
 have wr : IntKind.i64.wrap (x.day + x.days) = r := (jw _).trans hr.symm
 rw [← hr]
 clear HG hr
 go_enter Tryz.func47, Tryz.ntmps47
 go_wp2
 go_big_region
 all_goals go_wp2
 go_ret
 exact ⟨rfl, rfl⟩
theorem zBn (g g' : Nat) (x x' : DS) (w : World) (HG : w.heap[g]? = some x.obj) (HG' : w.heap[g']? = some x'.obj) :
  Calls Tryz.prog 46 #[.pointer (some ⟨g, 0, none⟩), .pointer (some ⟨g', 0, none⟩)] w fun e w' => e = .returned (.int .i64 (wrap64 (x.last - x'.last))) ∧ ∃ q, w' = w.drewN q := by
 have h1 := zYg g x w HG
 have h2 := zYg g' x' (w.drewN 1) HG'
 obtain ⟨r, hr⟩ : ∃ r, r = wrap64 (x.last - x'.last) := ⟨_, rfl⟩
 have wr : IntKind.i64.wrap (x.last - x'.last) = r := (jw _).trans hr.symm
 rw [← hr]
 clear HG HG' hr
 go_enter Tryz.func46, Tryz.ntmps46
 go_wp2_with (first | (go_at_call 47; (with_reducible refine h1.mono ?_); rintro e w1 ⟨rfl, rfl⟩) | (go_at_call 47; (with_reducible refine h2.mono ?_); rintro e w2 ⟨rfl, rfl⟩))
 go_ret
 exact ⟨rfl, 2, rfl⟩
def encF {n : Nat} (gs : Fin n → Nat) (i : Fin n) : Value := .pointer (some ⟨gs i, 0, none⟩)
theorem encF_one {n : Nat} (gs : Fin n → Nat) : OneCell (encF gs) := fun _ => rfl
theorem zZq {α : Type} [Inhabited α] (enc : α → Value) (w : World) (blk off m : Nat) (X : Array α) (os : Array Obj) (g : Nat) (o : Obj) (h : w.heap[g]? = some o) (hne : g ≠ blk) : (sortWorld enc w blk off m X os).heap[g]? = some o := by
 show ((w.heap.modify blk _) ++ os)[g]? = some o
 have hlt : g < w.heap.size := (Array.getElem?_eq_some_iff.1 h).1
 rw [Array.getElem?_append_left (by simpa using hlt), Array.getElem?_modify, if_neg (Ne.symm hne)]
 exact h
theorem qXl {n : Nat} [Inhabited (Fin n)] (gs : Fin n → Nat) (xs : Fin n → DS) (blk off : Nat) (w : World) (h : ∀ i, w.heap[gs i]? = some (xs i).obj) (hne : ∀ i, gs i ≠ blk) (size : Nat) :
  CmpReads Tryz.prog 46 #[] (encF gs) (fun i j => wrap64 ((xs i).last - (xs j).last)) blk off size w := by
 intro m os dk _ x y
 exact zBn (gs x) (gs y) (xs x) (xs y) _ (zZq _ _ _ _ _ _ _ _ _ (h x) (hne x)) (zZq _ _ _ _ _ _ _ _ _ (h y) (hne y))
end Go.Proofs.YtaihfoihlbileaaGreatDoor.R7
namespace Go.Proofs.YtaihfoihlbileaaGreatDoor.R7
open Go Go.Proofs Go.RowKit Go.Proofs.YtaihfoihlbileaaGreatDoorW.PrintWords Go.Proofs.YtaihfoihlbileaaGreatDoorW.PrintLast Go.Proofs.YtaihfoihlbileaaGreatDoorW.PrintMore
theorem info60 : (Tryz.prog.info? 60).map (fun i => (i.zero, i.size, i.bytes)) = some (some (.pointer none), 1, 8) := by kernel_rfl
theorem eql_nil (w : World) : Sem.run Tryz.prog (binOp BinOp.eql 57 (.slice none 0 0) (.slice none 0 0)) w = .ok (.bool true) w := by kernel_rfl
theorem eql_some (a : Addr) (n cap : Nat) (w : World) : Sem.run Tryz.prog (binOp BinOp.eql 57 (.slice (some a) n cap) (.slice none 0 0)) w = .ok (.bool false) w := by kernel_rfl
theorem qXn (w : World) : Calls Tryz.prog 44 #[.slice none 0 0] w fun e w' => e = .returned (.slice none 0 0) ∧ w' = w := by
 have hq := eql_nil
 go_enter Tryz.func44, Tryz.ntmps44
 go_wp2
 go_ret
 exact ⟨rfl, rfl⟩
theorem qQf (blk cap n : Nat) (xs : List Value) (w : World) (hc : ∀ j u, xs[j]? = some u → w.cell? ⟨blk, j, none⟩ = some u) (hl : xs.length = n) (h1 : ∀ u ∈ xs, u.oneCell' = true) (hn : n ≤ 1000) :
  Calls Tryz.prog 44 #[.slice (some ⟨blk, 0, none⟩) n cap] w fun e w' => ∃ v', e = .returned v' ∧ w'.ownsRow w.heap.size 60 1 v' n xs ∧ v' ≠ .slice none 0 0 ∧ Below w.heap.size w w' := by
 obtain ⟨i0, hi, hzz⟩ := Option.map_eq_some_iff.1 info60
 simp only [Prod.mk.injEq] at hzz
 obtain ⟨hz0, hz1, hz2⟩ := hzz
 have hq := eql_some ⟨blk, 0, none⟩ n cap
 go_enter Tryz.func44, Tryz.ntmps44
 have hown : (w.alloc (.cells #[] 60)).ownsRow w.heap.size 60 1 (.slice (some ⟨w.heap.size, 0, none⟩) 0 0) 0 [] := ⟨rfl, .inr ⟨w.heap.size, 0, #[], rfl, Nat.le_refl _, heap_alloc_new w _, Nat.le_refl _, by decide, rfl, rfl⟩⟩
 have hc2 : ∀ j u, xs[j]? = some u → (w.alloc (.cells #[] 60)).cell? ((⟨blk, 0, none⟩ : Addr).add j) = some u := by
  intro j u hu
  have h2 := hc j u hu
  have e : (⟨blk, 0, none⟩ : Addr).add j = ⟨blk, j, none⟩ := by
   unfold Addr.add
   by_cases hj : j = 0 <;> simp [hj]
  rw [e, World.cell?_alloc_lt (h := World.block_lt_of_cell? w _ h2)]
  exact h2
 go_wp2_with (at_builtin; refine wpList_append_own _ rfl _ _ 57 rfl w.heap.size 60 i0 (.pointer none) 1 8 Tryz.underlying57 hi hz0 hz1 hz2 rfl (by decide) _ 0 [] rfl hown ⟨blk, 0, none⟩ n cap xs rfl (by rw [hl, Nat.mul_one]) hc2 h1 (by unfold maxLen; omega) (by omega) (by simp) ?_; intro v' w1 hown1 hg1 hnil)
 go_ret
 refine ⟨v', rfl, by simpa using hown1, ?_, ?_⟩
 ·intro e
  cases (hnil.1 e).1
 ·refine Below.grown ((Below.refl _ _).alloc (Nat.le_refl _) _) hg1 (by simp) ?_
  intro b hb
  exact Nat.le_of_eq (Option.some.inj hb)
end Go.Proofs.YtaihfoihlbileaaGreatDoor.R7
namespace Go.Proofs.YtaihfoihlbileaaGreatDoor.R7
open Go Go.Proofs Go.RowKit Go.Sort Go.Shelf Go.Lib Go.Proofs.YtaihfoihlbileaaGreatDoorW.PrintWords Go.Proofs.YtaihfoihlbileaaGreatDoorW.PrintLast Go.Proofs.YtaihfoihlbileaaGreatDoorW.PrintMore
def encP (g : Nat) : Value := .pointer (some ⟨g, 0, none⟩)
def ordA (ls : Nat → Int) : Nat → List Nat
 | 0 => []
 | m + 1 => (yT (fun i j : Fin (m + 1) => wrap64 (ls i - ls j)) (Array.ofFn (fun i : Fin (m + 1) => i))).toList.map (·.val)
theorem qYq (w : World) (base n : Nat) (v : Value) (xs : List Value) (h : w.ownsRow base 60 1 v n xs) (h1 : ∀ u ∈ xs, u.oneCell' = true) (hn : n ≤ 1000) (hnil : n = 0 → v = .slice none 0 0) :
  Calls Tryz.prog 44 #[v] w fun e w' => ∃ v', e = .returned v' ∧ w'.ownsRow w.heap.size 60 1 v' n xs ∧ Below w.heap.size w w' ∧ (n = 0 → v' = .slice none 0 0) := by
 rcases h.2 with ⟨rfl, rfl⟩ | ⟨g, cap, cur, rfl, hg, hb, hnc, hcm, hcs, ht⟩
 ·refine (qXn w).mono ?_
  rintro e w' ⟨rfl, rfl⟩
  exact ⟨_, rfl, ⟨h.1, .inl ⟨rfl, rfl⟩⟩, Below.refl _ _, fun _ => rfl⟩
 ·have hn0 : n ≠ 0 := fun e => by cases hnil e
  refine (qQf g cap n xs w (fun j u hu => ?_) (by have := h.1; omega) h1 hn).mono ?_
  ·have hj : j < n * 1 := by
    have := (List.getElem?_eq_some_iff.1 hu).1
    have := h.1
    omega
   rw [World.ownsRow.cellAt h j hj]
   exact hu
  ·rintro e w' ⟨v', rfl, h2, h3, h4⟩
   exact ⟨v', rfl, h2, h4, fun e => absurd e hn0⟩
theorem sort_nil (w : World) : Calls Tryz.prog 45 #[.slice none 0 0, .func (.func 46) #[] #[]] w fun e w' => e = .returned (.tuple #[]) ∧ w' = w := by
 have h1 : Calls Tryz.prog 84 #[.slice none 0 0, .int .i64 0, .int .i64 0, .func (.func 46) #[] #[]] w fun e w' => e = .returned (.tuple #[]) ∧ w' = w := by
  go_enter Tryz.func84, Tryz.ntmps84
  go_wp2
  go_loopg [8] 0 (fun g1 vi wr => vi = .int .i64 1 ∧ wr = w)
  case atStart => exact ⟨rfl, rfl⟩
  case round =>
   obtain ⟨rfl, rfl⟩ := hrel
   go_wp2
   go_end0
   exact ⟨rfl, rfl⟩
 have h2 : Calls Tryz.prog 66 #[.slice none 0 0, .int .i64 0, .func (.func 46) #[] #[]] w fun e w' => e = .returned (.tuple #[]) ∧ w' = w := by
  go_enter Tryz.func66, Tryz.ntmps66
  go_wp2
  go_loopg [7, 8] 0 (fun g1 va vb wr => va = .int .i64 0 ∧ vb = .int .i64 20 ∧ wr = w)
  case atStart => exact ⟨rfl, rfl, rfl⟩
  case round =>
   obtain ⟨rfl, rfl, rfl⟩ := hrel
   go_wp2_with (go_at_call 84; (with_reducible refine h1.mono ?_); rintro e' w' ⟨rfl, rfl⟩)
   go_loopg [6] 0 (fun g1 vi wr => vi = .int .i64 20 ∧ wr = w')
   case atStart => exact ⟨rfl, rfl⟩
   case round =>
    obtain ⟨rfl, rfl⟩ := hrel
    go_wp2
    go_end0
    exact ⟨rfl, rfl⟩
 go_enter Tryz.func45, Tryz.ntmps45
 go_wp2_with (go_at_call 66; (with_reducible refine h2.mono ?_); rintro e' w' ⟨rfl, rfl⟩)
 go_end0
 exact ⟨rfl, rfl⟩
theorem sort_any (base : Nat) : ∀ (n : Nat) (gs : List Nat) (_ : gs.length = n) (_ : n ≤ 1000) (X : Nat → DS) (w : World) (v : Value) (_ : w.ownsRow base 60 1 v n (gs.map encP)) (_ : ∀ j g, gs[j]? = some g → w.heap[g]? = some (X j).obj) (_ : n = 0 → v = .slice none 0 0),
  Calls Tryz.prog 45 #[v, .func (.func 46) #[] #[]] w fun e w' => e = .returned (.tuple #[]) ∧ w'.ownsRow base 60 1 v n ((ordA (fun j => (X j).last) n).map fun j => encP (gs.getD j 0)) ∧ w.grownBy w' v.ownBlock := by
 intro n gs hl hn X w v hown hobj hnil
 cases n with
 | zero =>
  obtain rfl := hnil rfl
  refine (sort_nil w).mono ?_
  rintro e w' ⟨rfl, rfl⟩
  exact ⟨rfl, ⟨rfl, .inl ⟨rfl, rfl⟩⟩, ⟨rfl, rfl, rfl, Nat.le_refl _, fun _ _ _ => rfl⟩⟩
 | succ m =>
  rcases hown.2 with ⟨_, h0⟩ | ⟨blk, cap, cur, rfl, hg, hb, hnc, hcm, hcs, ht⟩
  ·cases h0
  have hgs : ∀ j : Fin (m + 1), gs[j.val]? = some (gs.getD j.val 0) := fun j => by
   rw [List.getD_eq_getElem?_getD, List.getElem?_eq_getElem (by have := j.2; omega)]
   rfl
  have hne : ∀ j : Fin (m + 1), gs.getD j.val 0 ≠ blk := fun j e => by
   have h1 := hobj _ _ (hgs j)
   rw [e, hb] at h1
   have h2 := Option.some.inj h1
   unfold DS.obj at h2
   injection h2 with _ h3 _
   exact absurd h3 (by decide)
  have hc := qXl (n := m + 1) (fun j => gs.getD j.val 0) (fun j => X j.val) blk 0 w (fun j => hobj _ _ (hgs j)) hne (m + 1)
  have hds : (Array.ofFn (fun i : Fin (m + 1) => i)).size = m + 1 := Array.size_ofFn
  have hH : Holds (encF (n := m + 1) (fun j => gs.getD j.val 0)) w blk 0 (Array.ofFn (fun i : Fin (m + 1) => i)) := by
   intro j hj
   rw [hds] at hj
   refine ⟨?_, World.ownsRow.frozenAt hown _⟩
   rw [Nat.zero_add, World.ownsRow.cellAt hown j (by omega), List.getElem?_map, hgs ⟨j, hj⟩, getElem!_pos _ j (by rw [hds]; exact hj), Array.getElem_ofFn]
   rfl
  have hs := zKn (encF (n := m + 1) (fun j => gs.getD j.val 0)) (encF_one _) (fun i j => wrap64 ((X i.val).last - (X j.val).last)) 46 #[] blk 0 cap (Array.ofFn (fun i : Fin (m + 1) => i)) w (fun _ _ => rfl) (by rw [hds]; exact hc) hH (by rw [hds]; omega)
  rw [hds] at hs
  refine hs.mono ?_
  rintro e w' ⟨rfl, q, rfl⟩
  have hAs := (zKb (fun i j : Fin (m + 1) => wrap64 ((X i.val).last - (X j.val).last)) (Array.ofFn (fun i : Fin (m + 1) => i))).trans hds
  refine ⟨rfl, ?_, ⟨rfl, rfl, rfl, ?_, ?_⟩⟩
  ·rw [show ordA (fun j => (X j).last) (m + 1) = (yT (fun i j : Fin (m + 1) => wrap64 ((X i.val).last - (X j.val).last)) (Array.ofFn (fun i : Fin (m + 1) => i))).toList.map (·.val) from rfl]
   generalize yT (fun i j : Fin (m + 1) => wrap64 ((X i.val).last - (X j.val).last)) (Array.ofFn (fun i : Fin (m + 1) => i)) = A at hAs ⊢
   refine ⟨by simp [hAs], .inr ⟨blk, cap, putCells (encF (n := m + 1) (fun j => gs.getD j.val 0)) 0 A cur, rfl, hg, ?_, hnc, hcm, by simp [putCells, hcs], ?_⟩⟩
   ·show (w.heap.modify blk _)[blk]? = _
    rw [Array.getElem?_modify, if_pos rfl, hb]
    rfl
   ·apply List.ext_getElem?
    intro j
    rw [List.getElem?_take]
    by_cases hj : j < (m + 1) * 1
    ·rw [if_pos hj]
     have hj2 : j < A.size := by omega
     have hj3 : j < cur.size := by have : (m + 1) * 1 ≤ cap * 1 := Nat.mul_le_mul_right 1 hnc; omega
     simp only [putCells, Array.getElem?_toList, Array.getElem?_mapIdx, List.getElem?_map, Array.getElem?_eq_getElem hj3, Array.getElem?_eq_getElem hj2, Option.map_some]
     rw [if_pos ⟨Nat.zero_le _, by omega⟩, Nat.sub_zero, getElem!_pos A j hj2]
     rfl
    ·rw [if_neg hj]
     symm
     rw [List.getElem?_eq_none]
     simp [hAs]
     omega
  ·show _ ≤ (w.heap.modify blk _).size
   rw [Array.size_modify]
   exact Nat.le_refl _
  ·intro k hk hne2
   show (w.heap.modify blk _)[k]? = _
   rw [Array.getElem?_modify, if_neg (fun e => hne2 (congrArg some e.symm))]
end Go.Proofs.YtaihfoihlbileaaGreatDoor.R7
namespace Go.Proofs.YtaihfoihlbileaaGreatDoor.R7
open Go Go.Proofs Go.RowKit Go.Proofs.YtaihfoihlbileaaGreatDoorW.PrintWords Go.Proofs.YtaihfoihlbileaaGreatDoorW.PrintLast Go.Proofs.YtaihfoihlbileaaGreatDoorW.PrintMore
attribute [local go_sem] vZ vY vT yZ xH xG vz vX
theorem zDg (g : Nat) (nm : ByteArray) (s1 s2 s3 s4 s5 s6 owes paid taken done left day : Int) (w0 w : World) (hI : xE w0 w g nm s1 s2 s3 s4 s5 s6 owes paid taken done) (hB : Below w0.heap.size w0 w) :
  Calls Tryz.prog 49 #[.pointer (some ⟨g, 0, none⟩), .int .i64 left, .int .i64 day] w fun e w' => e = .returned (.int .i64 (wrap64 (left - mn left owes))) ∧ xE w0 w' g nm s1 s2 s3 s4 s5 s6 (wrap64 (owes - mn left owes)) (wrap64 (paid + mn left owes)) taken (if wrap64 (owes - mn left owes) = 0 then day else done) ∧ Below w0.heap.size w0 w' ∧ xV w w' g none := by
 obtain ⟨HG, hg⟩ := hI
 have c1 := uK HG
 have c2 := zQj HG
 have c4 := uz HG
 have f1 := qX HG 7
 have f2 := qX HG 8
 have f4 := qX HG 10
 have hne : (⟨g, 8, none⟩ : Addr) ≠ ⟨g, 7, none⟩ := fun e => absurd (show (8 : Nat) = 7 from congrArg Addr.off e) (by decide)
 by_cases hlt : owes < left
 ·have en : mn left owes = owes := by unfold mn; rw [if_pos hlt]
  rw [en]
  obtain ⟨p, hp⟩ : ∃ p, p = wrap64 (paid + owes) := ⟨_, rfl⟩
  have ho : wrap64 (owes - owes) = 0 := by rw [Int.sub_self]; unfold wrap64; omega
  obtain ⟨r, hr⟩ : ∃ r, r = wrap64 (left - owes) := ⟨_, rfl⟩
  rw [← hp, ho, ← hr]
  have wp : IntKind.i64.wrap (paid + owes) = p := (jw _).trans hp.symm
  have wr : IntKind.i64.wrap (left - owes) = r := (jw _).trans hr.symm
  have c3 : (w.setCell ⟨g, 8, none⟩ (.int .i64 p)).drew.cell? ⟨g, 7, none⟩ = some (.int .i64 owes) := (World.cell?_setCell_other (w := w) (v := .int .i64 p) (h := hne)).trans c1
  have f3 : (w.setCell ⟨g, 8, none⟩ (.int .i64 p)).drew.frozen? ⟨g, 7, none⟩ = false := (World.frozen?_setCell ..).trans f1
  have G2 : ((w.setCell ⟨g, 8, none⟩ (.int .i64 p)).setCell ⟨g, 7, none⟩ (.int .i64 (0))).drew.heap[g]? = some (.cells #[.string nm, .int .i64 s1, .int .i64 s2, .int .i64 s3, .int .i64 s4, .int .i64 s5, .int .i64 s6, .int .i64 (0), .int .i64 p, .int .i64 taken, .int .i64 done] 62 (0, 0)) := zK (zL (zL HG 8 _ rfl) 7 _ rfl)
  have B2 : Below w0.heap.size w0 ((w.setCell ⟨g, 8, none⟩ (.int .i64 p)).setCell ⟨g, 7, none⟩ (.int .i64 (0))).drew := qD (jG (jG hB hg) hg)
  have K2 : xV w ((w.setCell ⟨g, 8, none⟩ (.int .i64 p)).setCell ⟨g, 7, none⟩ (.int .i64 (0))).drew g none := ((xV.refl w g none).set_ 8 _).set_ 7 _
  clear en hp ho hr
  go_enter Tryz.func49, Tryz.ntmps49
  go_wp2
  go_big_region
  generalize ((w.setCell ⟨g, 8, none⟩ (.int .i64 p)).setCell ⟨g, 7, none⟩ (.int .i64 (0))).drew = w2 at G2 B2 K2 ⊢
  clear c1 c2 c4 f1 f2 f4 c3 f3 HG
  have c1 := uK G2
  have c4 := uz G2
  have f4 := qX G2 10
  go_wp2
  go_ret
  exact ⟨by first | rfl | (simp; done), ⟨by first | exact zL G2 10 _ rfl | (rw [if_pos rfl]; exact zL G2 10 _ rfl), hg⟩, jG B2 hg, K2.set_ 10 _⟩
 ·have en : mn left owes = left := by unfold mn; rw [if_neg hlt]
  rw [en]
  obtain ⟨p, hp⟩ : ∃ p, p = wrap64 (paid + left) := ⟨_, rfl⟩
  obtain ⟨o, ho⟩ : ∃ o, o = wrap64 (owes - left) := ⟨_, rfl⟩
  have hr : wrap64 (left - left) = 0 := by rw [Int.sub_self]; unfold wrap64; omega
  rw [← hp, ← ho, hr]
  have wp : IntKind.i64.wrap (paid + left) = p := (jw _).trans hp.symm
  have wo : IntKind.i64.wrap (owes - left) = o := (jw _).trans ho.symm
  have c3 : (w.setCell ⟨g, 8, none⟩ (.int .i64 p)).drew.cell? ⟨g, 7, none⟩ = some (.int .i64 owes) := (World.cell?_setCell_other (w := w) (v := .int .i64 p) (h := hne)).trans c1
  have f3 : (w.setCell ⟨g, 8, none⟩ (.int .i64 p)).drew.frozen? ⟨g, 7, none⟩ = false := (World.frozen?_setCell ..).trans f1
  have G2 : ((w.setCell ⟨g, 8, none⟩ (.int .i64 p)).setCell ⟨g, 7, none⟩ (.int .i64 (o))).drew.heap[g]? = some (.cells #[.string nm, .int .i64 s1, .int .i64 s2, .int .i64 s3, .int .i64 s4, .int .i64 s5, .int .i64 s6, .int .i64 (o), .int .i64 p, .int .i64 taken, .int .i64 done] 62 (0, 0)) := zK (zL (zL HG 8 _ rfl) 7 _ rfl)
  have B2 : Below w0.heap.size w0 ((w.setCell ⟨g, 8, none⟩ (.int .i64 p)).setCell ⟨g, 7, none⟩ (.int .i64 (o))).drew := qD (jG (jG hB hg) hg)
  have K2 : xV w ((w.setCell ⟨g, 8, none⟩ (.int .i64 p)).setCell ⟨g, 7, none⟩ (.int .i64 (o))).drew g none := ((xV.refl w g none).set_ 8 _).set_ 7 _
  clear en hp ho hr
  go_enter Tryz.func49, Tryz.ntmps49
  go_wp2
  go_big_region
  generalize ((w.setCell ⟨g, 8, none⟩ (.int .i64 p)).setCell ⟨g, 7, none⟩ (.int .i64 (o))).drew = w2 at G2 B2 K2 ⊢
  clear c1 c2 c4 f1 f2 f4 c3 f3 HG
  have c1 := uK G2
  have c4 := uz G2
  have f4 := qX G2 10
  by_cases hz : o = 0
  ·subst hz
   go_wp2
   go_ret
   exact ⟨by first | rfl | (simp; done), ⟨by first | exact zL G2 10 _ rfl | (rw [if_pos rfl]; exact zL G2 10 _ rfl), hg⟩, jG B2 hg, K2.set_ 10 _⟩
  ·go_wp2
   go_ret
   exact ⟨by first | rfl | (simp; done), ⟨by first | exact G2 | (rw [if_neg hz]; exact G2), hg⟩, B2, K2⟩
def uZ (dsc s1 s5 owes paid taken done left day : Int) : Int × Int × Int × Int × Int :=
 if wrap64 (owes - dsc) > left ∨ day > wrap64 (s1 + s5) then (wrap64 (left - mn left owes), wrap64 (owes - mn left owes), wrap64 (paid + mn left owes), taken, if wrap64 (owes - mn left owes) = 0 then day else done)
 else (wrap64 (left - wrap64 (owes - dsc)), 0, wrap64 (paid + wrap64 (owes - dsc)), dsc, day)
theorem qQk (k : Nat) (g : Nat) (nm : ByteArray) (s1 s2 s3 s4 s5 s6 owes paid taken done left day dsc : Int) (w0 w : World) (hI : xE w0 w g nm s1 s2 s3 s4 s5 s6 owes paid taken done) (hB : Below w0.heap.size w0 w)
  (hd : jX.f k nm s1 s2 s3 s4 s5 s6 owes paid taken done = some (dsc, nm, s1, s2, s3, s4, s5, s6, owes, paid, taken, done)) :
  Calls Tryz.prog 48 #[.pointer (some ⟨g, 0, none⟩), .int .i64 left, .int .i64 day] w fun e w' => e = .returned (.int .i64 (uZ dsc s1 s5 owes paid taken done left day).1) ∧ xE w0 w' g nm s1 s2 s3 s4 s5 s6 (uZ dsc s1 s5 owes paid taken done left day).2.1 (uZ dsc s1 s5 owes paid taken done left day).2.2.1 (uZ dsc s1 s5 owes paid taken done left day).2.2.2.1 (uZ dsc s1 s5 owes paid taken done left day).2.2.2.2 ∧ Below w0.heap.size w0 w' ∧ xV w w' g none := by
 have hcd := jX.calls k g nm s1 s2 s3 s4 s5 s6 owes paid taken done dsc nm s1 s2 s3 s4 s5 s6 owes paid taken done w0 w hI hB hd
 clear hI hd
 obtain ⟨n, hn⟩ : ∃ n, n = wrap64 (owes - dsc) := ⟨_, rfl⟩
 obtain ⟨t, ht⟩ : ∃ t, t = wrap64 (s1 + s5) := ⟨_, rfl⟩
 have wn : IntKind.i64.wrap (owes - dsc) = n := (jw _).trans hn.symm
 have wt : IntKind.i64.wrap (s1 + s5) = t := (jw _).trans ht.symm
 by_cases h1 : n > left ∨ day > t
 ·have e : uZ dsc s1 s5 owes paid taken done left day = (wrap64 (left - mn left owes), wrap64 (owes - mn left owes), wrap64 (paid + mn left owes), taken, if wrap64 (owes - mn left owes) = 0 then day else done) := by
   unfold uZ
   rw [← hn, ← ht, if_pos h1]
  rw [e]
  have hp0 := fun w3 (G : w3.heap[g]? = some (.cells #[.string nm, .int .i64 s1, .int .i64 s2, .int .i64 s3, .int .i64 s4, .int .i64 s5, .int .i64 s6, .int .i64 owes, .int .i64 paid, .int .i64 taken, .int .i64 done] 62 (0, 0))) (hg : w0.heap.size ≤ g) (hb : Below w0.heap.size w0 w3) => zDg g nm s1 s2 s3 s4 s5 s6 owes paid taken done left day w0 w3 ⟨G, hg⟩ hb
  generalize wrap64 (left - mn left owes) = r1 at hp0 ⊢
  generalize (if wrap64 (owes - mn left owes) = 0 then day else done) = r4 at hp0 ⊢
  generalize wrap64 (owes - mn left owes) = r2 at hp0 ⊢
  generalize wrap64 (paid + mn left owes) = r3 at hp0 ⊢
  have HP0 : Aside _ := hp0
  clear e hn ht hp0
  go_enter Tryz.func48, Tryz.ntmps48
  go_wp2_with (go_at_call 67; refine hcd.mono ?_; rintro e w1 ⟨rfl, hI1, hB1, hK1⟩)
  obtain ⟨HG, hg⟩ := hI1
  have c1 := ky HG
  have c5 := zQk HG
  have c7 := uK HG
  have hp := HP0.out w1.drew HG hg (qD hB1)
  have hK2 : xV w w1.drew g none := hK1
  by_cases x1 : n > left
  ·have d1 : decide (left < n) = true := decide_eq_true x1
   go_wp2_with fail
   go_big_region
   generalize w1.drew = w2 at hp hK2 ⊢
   go_wp2_with (go_at_call 49; refine hp.mono ?_; rintro e w3 ⟨rfl, hI3, hB3, hK3⟩)
   go_ret
   exact ⟨rfl, hI3, hB3, hK2.trans hK3 (Or.inl rfl)⟩
  ·have x2 : day > t := h1.resolve_left x1
   have d1 : decide (left < n) = false := decide_eq_false x1
   have d2 : decide (t < day) = true := decide_eq_true x2
   go_wp2_with fail
   go_big_region
   generalize w1.drew = w2 at hp hK2 ⊢
   go_wp2_with (go_at_call 49; refine hp.mono ?_; rintro e w3 ⟨rfl, hI3, hB3, hK3⟩)
   go_ret
   exact ⟨rfl, hI3, hB3, hK2.trans hK3 (Or.inl rfl)⟩
 ·have x1 : ¬ n > left := fun h => h1 (Or.inl h)
  have x2 : ¬ day > t := fun h => h1 (Or.inr h)
  have d1 : decide (left < n) = false := decide_eq_false x1
  have d2 : decide (t < day) = false := decide_eq_false x2
  obtain ⟨p, hp⟩ : ∃ p, p = wrap64 (paid + n) := ⟨_, rfl⟩
  obtain ⟨r, hr⟩ : ∃ r, r = wrap64 (left - n) := ⟨_, rfl⟩
  have e : uZ dsc s1 s5 owes paid taken done left day = (r, 0, p, dsc, day) := by
   unfold uZ
   rw [← hn, ← ht, if_neg h1, ← hp, ← hr]
  rw [e]
  have wp : IntKind.i64.wrap (paid + n) = p := (jw _).trans hp.symm
  have wr : IntKind.i64.wrap (left - n) = r := (jw _).trans hr.symm
  clear e hn ht hp hr h1
  go_enter Tryz.func48, Tryz.ntmps48
  go_wp2_with (go_at_call 67; refine hcd.mono ?_; rintro e w1 ⟨rfl, hI1, hB1, hK1⟩)
  obtain ⟨HG, hg⟩ := hI1
  have c1 := ky HG
  have c5 := zQk HG
  have c7 := uK HG
  go_wp2_with fail
  go_big_region
  have G2 : w1.drew.heap[g]? = _ := HG
  have hB2 : Below w0.heap.size w0 w1.drew := qD hB1
  have hK2 : xV w w1.drew g none := hK1
  generalize w1.drew = w2 at G2 hB2 hK2 ⊢
  clear c1 c5 c7 HG
  have c7 := uK G2
  have c8 := zQj G2
  have c9 := zJk G2
  have c10 := uz G2
  have f7 := qX G2 7
  have f8 := qX G2 8
  have f9 := qX G2 9
  have f10 := qX G2 10
  go_wp2
  go_ret
  exact ⟨rfl, ⟨zL (zL (zL (zL G2 8 _ rfl) 9 _ rfl) 7 _ rfl) 10 _ rfl, hg⟩, jG (jG (jG (jG hB2 hg) hg) hg) hg, (((hK2.set_ 8 _).set_ 9 _).set_ 7 _).set_ 10 _⟩
end Go.Proofs.YtaihfoihlbileaaGreatDoor.R7
namespace Go.Proofs.YtaihfoihlbileaaGreatDoor.R7
open Go Go.Proofs Go.RowKit Go.Maps Go.Proofs.YtaihfoihlbileaaGreatDoorW.PrintWords Go.Proofs.YtaihfoihlbileaaGreatDoorW.PrintLast Go.Proofs.YtaihfoihlbileaaGreatDoorW.PrintMore
abbrev SDe := S53
abbrev rdD := yx
def zZk (v : Value) : Option (DataW Unit × List MemPlace) := match v with
 | .pointer none => some (.lit (.int .i64 (-1)), [])
 | .pointer (some ⟨g, 0, none⟩) => some (.lit (.int .i64 (g : Int)), [])
 | _ => none
theorem zEn {v : Value} {z : DataW Unit × List MemPlace} (h : zZk v = some z) : (v = .pointer none ∧ z.1 = .lit (.int .i64 (-1))) ∨ ∃ g : Nat, v = encP g ∧ z.1 = .lit (.int .i64 (g : Int)) := by
 unfold zZk at h
 split at h
 ·obtain rfl := Option.some.inj h
  exact Or.inl ⟨rfl, rfl⟩
 ·rename_i g
  obtain rfl := Option.some.inj h
  exact Or.inr ⟨g, rfl, rfl⟩
 ·cases h
def vH (nm : Nat → ByteArray) (s : ByteArray) : Nat → Option Nat
 | 0 => none
 | k + 1 => if (nm k).data.toList = s.data.toList then some k else vH nm s k
def qQq (gs : List Nat) (o : Option Nat) : DataW Unit := match o with
 | none => .lit (.int .i64 (-1))
 | some j => .lit (.int .i64 ((gs.getD j 0 : Nat) : Int))
def iniD (l0 : List SDe) (cv : Nat → Int) (i : Nat) : DS := ⟨(rdD l0 i).f0, (rdD l0 i).f1, (rdD l0 i).f2.f0, (rdD l0 i).f2.f1, (rdD l0 i).f3, (rdD l0 i).f4, (rdD l0 i).f5, cv i, 0, 0, 0⟩
theorem kv {nm : Nat → ByteArray} {s : ByteArray} : ∀ {k j : Nat}, vH nm s k = some j → j < k
 | 0, _, h => by cases h
 | k + 1, j, h => by
  unfold vH at h
  split at h
  ·obtain rfl := Option.some.inj h
   omega
  ·have := kv h
   omega
theorem law9 : Keyed Tryz.prog 9 := string_keyed Tryz.underlying9
theorem zero58 (w : World) : (zeroValue 60).run Tryz.prog w = .ok (.pointer none) w := by kernel_rfl
structure zEd (w wr : World) (B : Nat) (nm : Nat → ByteArray) (X : Nat → DS) (n : Nat) (v : Value) (gs : List Nat) (D : DataW Unit) : Prop where
 len : gs.length = n
 obj : ∀ j g, gs[j]? = some g → wr.heap[g]? = some (X j).obj
 nd : gs.Nodup
 big : ∀ g ∈ gs, B < g
 row : wr.ownsRow w.heap.size 60 1 v n (gs.map encP)
 map : wr.ownsMap Tryz.prog 9 zZk B n D
 key : ∀ s : ByteArray, D.atKey (.string s.data.toList) (.lit (.int .i64 (-1))) = qQq gs (vH nm s n)
 bel : Below w.heap.size w wr
 nil : n = 0 → v = .slice none 0 0
theorem keep7 {w1 W W' : World} {g : Nat} {v0 v1 v2 v3 v4 v5 v6 : Value} (h : W.cell? ⟨g, 0, none⟩ = some v0 ∧ W.cell? ⟨g, 1, none⟩ = some v1 ∧ W.cell? ⟨g, 2, none⟩ = some v2 ∧ W.cell? ⟨g, 3, none⟩ = some v3 ∧ W.cell? ⟨g, 4, none⟩ = some v4 ∧ W.cell? ⟨g, 5, none⟩ = some v5 ∧ W.cell? ⟨g, 6, none⟩ = some v6 ∧ Below w1.heap.size w1 W) (hb : Below W.heap.size W W') : W'.cell? ⟨g, 0, none⟩ = some v0 ∧ W'.cell? ⟨g, 1, none⟩ = some v1 ∧ W'.cell? ⟨g, 2, none⟩ = some v2 ∧ W'.cell? ⟨g, 3, none⟩ = some v3 ∧ W'.cell? ⟨g, 4, none⟩ = some v4 ∧ W'.cell? ⟨g, 5, none⟩ = some v5 ∧ W'.cell? ⟨g, 6, none⟩ = some v6 ∧ Below w1.heap.size w1 W' := by
 obtain ⟨h0, h1, h2, h3, h4, h5, h6, h7⟩ := h
 exact ⟨(hb.cell (World.block_lt_of_cell? W _ h0)).trans h0, (hb.cell (World.block_lt_of_cell? W _ h1)).trans h1, (hb.cell (World.block_lt_of_cell? W _ h2)).trans h2, (hb.cell (World.block_lt_of_cell? W _ h3)).trans h3, (hb.cell (World.block_lt_of_cell? W _ h4)).trans h4, (hb.cell (World.block_lt_of_cell? W _ h5)).trans h5, (hb.cell (World.block_lt_of_cell? W _ h6)).trans h6, h7.trans (hb.mono h7.size)⟩
theorem cz7 {w : World} {g : Nat} {t : TypeId} {v0 v1 v2 v3 v4 v5 v6 : Value} (h : w.heap[g]? = some (.cells #[v0, v1, v2, v3, v4, v5, v6] t (0, 0))) : w.cell? ⟨g, 0, none⟩ = some v0 ∧ w.cell? ⟨g, 1, none⟩ = some v1 ∧ w.cell? ⟨g, 2, none⟩ = some v2 ∧ w.cell? ⟨g, 3, none⟩ = some v3 ∧ w.cell? ⟨g, 4, none⟩ = some v4 ∧ w.cell? ⟨g, 5, none⟩ = some v5 ∧ w.cell? ⟨g, 6, none⟩ = some v6 :=
 ⟨(zx h 0).trans rfl, (zx h 1).trans rfl, (zx h 2).trans rfl, (zx h 3).trans rfl, (zx h 4).trans rfl, (zx h 5).trans rfl, (zx h 6).trans rfl⟩
theorem kW {W : World} {base : Nat} {e : TypeId} {size : Nat} {v : Value} {k : Nat} {xs : List Value} (h : W.ownsRow base e size v k xs) {j : Nat} {o : Obj} (hj : W.heap[j]? = some o) (hno : ∀ cur, o ≠ .cells cur e (0, 0)) : some j ≠ v.ownBlock := by
 intro e1
 rcases h.2 with ⟨rfl, _⟩ | ⟨g, cap, cur, rfl, _, hb, _⟩
 ·cases e1
 ·obtain rfl := Option.some.inj e1
  exact hno cur (Option.some.inj (hj.symm.trans hb))
theorem yE {W W' : World} {base : Nat} {e : TypeId} {size : Nat} {v : Value} {k : Nat} {xs : List Value} (h : W.ownsRow base e size v k xs) (hg : ∀ j, some j = v.ownBlock → W'.heap[j]? = W.heap[j]?) : W'.ownsRow base e size v k xs := by
 refine ⟨h.1, ?_⟩
 rcases h.2 with h1 | ⟨g, cap, cur, rfl, h2, hb, h3⟩
 ·exact .inl h1
 ·exact .inr ⟨g, cap, cur, rfl, h2, (hg g rfl).trans hb, h3⟩
theorem zQn {W : World} {base : Nat} {e : TypeId} {size : Nat} {v : Value} {k : Nat} {xs : List Value} (h : W.ownsRow base e size v k xs) {j : Nat} (hj : some j = v.ownBlock) : j < W.heap.size := by
 rcases h.2 with ⟨rfl, _⟩ | ⟨g, cap, cur, rfl, _, hb, _⟩
 ·cases hj
 ·obtain rfl := Option.some.inj hj
  exact xq hb
theorem uw {w w' : World} (h : Below w.heap.size w w') : w.grownBy w' none := ⟨h.os, h.tape, h.output, h.size, fun k hk _ => h.block k hk⟩
theorem news1 (w : World) (x : Value) (t : TypeId) : ∀ (j : Nat) (u : Value), [x][j]? = some u → (w.alloc (.cells #[x] t (0, 0))).cell? ((⟨w.heap.size, 0, none⟩ : Addr).add j) = some u := by
 intro j u hu
 cases j with
 | zero => exact (zx (xB w _) 0).trans hu
 | succ j => simp at hu
theorem zEd.keep {w wr w3 : World} {B : Nat} {nm : Nat → ByteArray} {X : Nat → DS} {n : Nat} {v : Value} {gs : List Nat} {D : DataW Unit} (L : zEd w wr B nm X n v gs D) (hb : Below wr.heap.size wr w3) : zEd w w3 B nm X n v gs D :=
 ⟨L.len, fun j g h => qV (L.obj j g h) hb, L.nd, L.big, yE L.row fun j hj => hb.block j (zQn L.row hj), L.map.kept (uw hb) (by simp), L.key, L.bel.trans (hb.mono L.bel.size), L.nil⟩
theorem zEd.push {w wr w4 w5 : World} {nm : Nat → ByteArray} {X : Nat → DS} {n : Nat} {v v' : Value} {gs : List Nat} {D : DataW Unit} {g2 : Nat} (L : zEd w wr w.heap.size nm X n v gs D) (hG : wr.heap[g2]? = some (X n).obj) (hfresh : ∀ g ∈ gs, g ≠ g2) (hbig : w.heap.size < g2)
  (hown : w4.ownsRow w.heap.size 60 1 v' (n + 1) (gs.map encP ++ [encP g2])) (hg4 : wr.grownBy w4 v.ownBlock) (hmap : w5.ownsMap Tryz.prog 9 zZk w.heap.size (n + 1) (D.put (.string (nm n).data.toList) (.lit (.int .i64 g2)))) (hg5 : w4.grownBy w5 (some w.heap.size)) :
  zEd w w5 w.heap.size nm X (n + 1) v' (gs ++ [g2]) (D.put (.string (nm n).data.toList) (.lit (.int .i64 g2))) := by
 have step : ∀ g j, wr.heap[g]? = some (X j).obj → w.heap.size < g → w5.heap[g]? = some (X j).obj := by
  intro g j h hlt
  have h4 : w4.heap[g]? = some (X j).obj := (hg4.block g (xq h) (kW L.row h (by intro cur e; injection e with _ e2 _; exact absurd e2 (by decide)))).trans h
  exact (hg5.block g (xq h4) (by intro e; have := Option.some.inj e; omega)).trans h4
 obtain ⟨es, ck, hmb, _⟩ := L.map
 have hmw : wr.heap.size ≤ w4.heap.size := hg4.size
 refine ⟨by simp [L.len], ?_, ?_, ?_, ?_, hmap, ?_, ?_, fun e => absurd e (Nat.succ_ne_zero n)⟩
 ·intro j g h
  rcases Nat.lt_or_ge j gs.length with hj | hj
  ·rw [List.getElem?_append_left hj] at h
   exact step g j (L.obj j g h) (L.big g (List.mem_of_getElem? h))
  ·rw [List.getElem?_append_right hj] at h
   have hj0 : j - gs.length = 0 := by
    cases hx : j - gs.length with
    | zero => rfl
    | succ m => rw [hx] at h; simp at h
   rw [hj0] at h
   obtain rfl := Option.some.inj h
   have hjn : j = n := by have := L.len; omega
   subst hjn
   exact step _ _ hG hbig
 ·rw [List.nodup_append]
  exact ⟨L.nd, by simp, fun a ha b hb => by simp at hb; subst hb; exact hfresh a ha⟩
 ·intro g hg
  rcases List.mem_append.1 hg with h | h
  ·exact L.big g h
  ·simp at h; omega
 ·rw [List.map_append]
  refine yE hown fun j hj => hg5.block j (zQn hown hj) fun e => ?_
  have h4 : w4.heap[w.heap.size]? = some (.map es ck) := (hg4.block _ (xq hmb) (kW L.row hmb (by intro cur e; cases e))).trans hmb
  exact kW hown h4 (by intro cur e; cases e) (e ▸ hj)
 ·intro s
  have hk := L.key s
  by_cases hs : s.data.toList = (nm n).data.toList
  ·rw [hs, Maps.atKey_put_same L.map.isMap (by exact trivial)]
   rw [show vH nm s (n + 1) = if (nm n).data.toList = s.data.toList then some n else vH nm s n from rfl, if_pos hs.symm]
   simp only [qQq]
   rw [← L.len]
   simp
  ·rw [Maps.atKey_put_other (by intro e; injection e with e; exact hs e), hk]
   rw [show vH nm s (n + 1) = if (nm n).data.toList = s.data.toList then some n else vH nm s n from rfl, if_neg (fun e => hs e.symm)]
   cases hl : vH nm s n with
   | none => rfl
   | some j =>
    have hj : j < n := kv hl
    simp only [qQq]
    rw [List.getD_eq_getElem?_getD, List.getD_eq_getElem?_getD, List.getElem?_append_left (by rw [L.len]; exact hj)]
 ·refine (L.bel.grown hg4 L.bel.size ?_).grown hg5 (Nat.le_trans L.bel.size hmw) ?_
  ·intro b hb
   rcases L.row.2 with ⟨rfl, _⟩ | ⟨g, cap, cur, rfl, hge, _⟩
   ·cases hb
   ·obtain rfl := Option.some.inj hb
    exact hge
  ·intro b hb
   obtain rfl := Option.some.inj hb
   exact Nat.le_refl _
abbrev SPa := S72
abbrev rdA := zX
structure V4 where
 owes : Int
 paid : Int
 taken : Int
 done : Int
def mkD (l0 : List SDe) (i : Nat) (v : V4) : DS := ⟨(rdD l0 i).f0, (rdD l0 i).f1, (rdD l0 i).f2.f0, (rdD l0 i).f2.f1, (rdD l0 i).f3, (rdD l0 i).f4, (rdD l0 i).f5, v.owes, v.paid, v.taken, v.done⟩
def upd (S : Nat → V4) (j : Nat) (v : V4) : Nat → V4 := fun i => if i = j then v else S i
def iniV (cv : Nat → Int) (i : Nat) : V4 := ⟨cv i, 0, 0, 0⟩
def xy (d : SDe) (v : V4) (day : Int) : Bool := if d.f1 ≤ day then v.done == 0 else false
def payV (v : V4) (left day : Int) : Int × V4 := (wrap64 (left - mn left v.owes), ⟨wrap64 (v.owes - mn left v.owes), wrap64 (v.paid + mn left v.owes), v.taken, if wrap64 (v.owes - mn left v.owes) = 0 then day else v.done⟩)
def yJ (d : SDe) (dsc : Int) (v : V4) (left day : Int) : Int × V4 := ((uZ dsc d.f1 d.f4 v.owes v.paid v.taken v.done left day).1, ⟨(uZ dsc d.f1 d.f4 v.owes v.paid v.taken v.done left day).2.1, (uZ dsc d.f1 d.f4 v.owes v.paid v.taken v.done left day).2.2.1, (uZ dsc d.f1 d.f4 v.owes v.paid v.taken v.done left day).2.2.2.1, (uZ dsc d.f1 d.f4 v.owes v.paid v.taken v.done left day).2.2.2.2⟩)
def nmD (l0 : List SDe) (i : Nat) : ByteArray := (rdD l0 i).f0
def zCe (l0 : List SDe) (dsc : Nat → Int → Int) (day : Int) (o : Option Nat) (s : Int × (Nat → V4)) : Int × (Nat → V4) := match o with
 | none => s
 | some j => if xy (rdD l0 j) (s.2 j) day = true then ((yJ (rdD l0 j) (dsc j (s.2 j).owes) (s.2 j) s.1 day).1, upd s.2 j (yJ (rdD l0 j) (dsc j (s.2 j).owes) (s.2 j) s.1 day).2) else s
def runN (l0 : List SDe) (dsc : Nat → Int → Int) (day : Int) (nm : Nat → ByteArray) (s : Int × (Nat → V4)) : Nat → Int × (Nat → V4)
 | 0 => s
 | k + 1 => zCe l0 dsc day (vH (nmD l0) (nm k) l0.length) (runN l0 dsc day nm s k)
def zXe (l0 : List SDe) (day : Int) (j : Nat) (s : Int × (Nat → V4)) : Int × (Nat → V4) :=
 if s.1 > 0 ∧ xy (rdD l0 j) (s.2 j) day = true then ((payV (s.2 j) s.1 day).1, upd s.2 j (payV (s.2 j) s.1 day).2) else s
def runO (l0 : List SDe) (day : Int) (od : List Nat) (s : Int × (Nat → V4)) : Nat → Int × (Nat → V4)
 | 0 => s
 | k + 1 => zXe l0 day (od.getD k 0) (runO l0 day od s k)
def oneP (l0 : List SDe) (dsc : Nat → Int → Int) (od : List Nat) (p : SPa) (pc : Int) (S : Nat → V4) : Int × (Nat → V4) :=
 runO l0 p.f0 od (runN l0 dsc p.f0 (fun k => rdOf ByteArray.empty p.f2 k) (pc, S) p.f2.length) od.length
def runP (l0 : List SDe) (cv : Nat → Int) (dsc : Nat → Int → Int) (od : List Nat) (l1 : List SPa) (pc : Nat → Int) : Nat → (Nat → V4) × List Int
 | 0 => (iniV cv, [])
 | i + 1 => ((oneP l0 dsc od (rdA l1 i) (pc i) (runP l0 cv dsc od l1 pc i).1).2, (runP l0 cv dsc od l1 pc i).2 ++ [(oneP l0 dsc od (rdA l1 i) (pc i) (runP l0 cv dsc od l1 pc i).1).1])
def encI (n : Int) : Value := .int .i64 n
def ptrV (gs : List Nat) (o : Option Nat) : Value := match o with
 | none => .pointer none
 | some j => encP (gs.getD j 0)
structure yR (w wr : World) (l0 : List SDe) (v vo vr : Value) (gs : List Nat) (D : DataW Unit) (od : List Nat) (S : Nat → V4) (rest : List Int) : Prop where
 len : gs.length = l0.length
 odl : od.length = l0.length
 odb : ∀ j ∈ od, j < l0.length
 obj : ∀ j g, gs[j]? = some g → wr.heap[g]? = some (mkD l0 j (S j)).obj
 nd : gs.Nodup
 big : ∀ g ∈ gs, w.heap.size < g
 row : wr.ownsRow w.heap.size 60 1 v l0.length (gs.map encP)
 ord : wr.ownsRow w.heap.size 60 1 vo l0.length (od.map fun j => encP (gs.getD j 0))
 rst : wr.ownsRow w.heap.size 3 1 vr rest.length (rest.map encI)
 map : wr.ownsMap Tryz.prog 9 zZk w.heap.size l0.length D
 key : ∀ s : ByteArray, D.atKey (.string s.data.toList) (.lit (.int .i64 (-1))) = qQq gs (vH (nmD l0) s l0.length)
 bel : Below w.heap.size w wr
theorem vG {W : World} {base : Nat} {e : TypeId} {size : Nat} {v : Value} {k : Nat} {xs : List Value} (h : W.ownsRow base e size v k xs) {j : Nat} (hj : some j = v.ownBlock) : ∃ cur, W.heap[j]? = some (.cells cur e (0, 0)) ∧ base ≤ j := by
 rcases h.2 with ⟨rfl, _⟩ | ⟨g, cap, cur, rfl, hg, hb, _⟩
 ·cases hj
 ·obtain rfl := Option.some.inj hj
  exact ⟨cur, hb, hg⟩
theorem yR.keep {w wr w3 : World} {l0 : List SDe} {v vo vr : Value} {gs : List Nat} {D : DataW Unit} {od : List Nat} {S : Nat → V4} {rest : List Int} (L : yR w wr l0 v vo vr gs D od S rest) (hb : Below wr.heap.size wr w3) : yR w w3 l0 v vo vr gs D od S rest :=
 ⟨L.len, L.odl, L.odb, fun j g h => qV (L.obj j g h) hb, L.nd, L.big, yE L.row fun j hj => hb.block j (zQn L.row hj), yE L.ord fun j hj => hb.block j (zQn L.ord hj), yE L.rst fun j hj => hb.block j (zQn L.rst hj), L.map.kept (uw hb) (by simp), L.key, L.bel.trans (hb.mono L.bel.size)⟩
theorem yR.put {w wr w3 : World} {l0 : List SDe} {v vo vr : Value} {gs : List Nat} {D : DataW Unit} {od : List Nat} {S : Nat → V4} {rest : List Int} (L : yR w wr l0 v vo vr gs D od S rest) {j g : Nat} (hj : gs[j]? = some g) {v' : V4} (hk : xV wr w3 g none)
  (hg : w3.heap[g]? = some (mkD l0 j v').obj) (hb : Below w.heap.size w w3) : yR w w3 l0 v vo vr gs D od (upd S j v') rest := by
 have hG := L.obj j g hj
 have hkeep : ∀ i o, wr.heap[i]? = some o → i ≠ g → w3.heap[i]? = some o := fun i o h hne => (hk.2 i (xq h) hne (by simp)).trans h
 have hrow : ∀ {v : Value} {n : Nat} {xs : List Value} {e : TypeId}, wr.ownsRow w.heap.size e 1 v n xs → e ≠ 62 → w3.ownsRow w.heap.size e 1 v n xs := fun h he => yE h fun i hi => by
  obtain ⟨cur, hc, _⟩ := vG h hi
  refine (hk.2 i (xq hc) (fun e1 => ?_) (by simp))
  rw [e1, hG] at hc
  have h2 := Option.some.inj hc
  unfold DS.obj at h2
  injection h2 with _ h3 _
  exact he h3.symm
 obtain ⟨es, ck, hmb, hmr⟩ := L.map
 refine ⟨L.len, L.odl, L.odb, ?_, L.nd, L.big, hrow L.row (by decide), hrow L.ord (by decide), hrow L.rst (by decide), ⟨es, ck, hkeep _ _ hmb (fun e => ?_), hmr⟩, L.key, hb⟩
 ·intro i g' h
  unfold upd
  by_cases hij : i = j
  ·subst hij
   obtain rfl := Option.some.inj (h.symm.trans hj)
   rw [if_pos rfl]
   exact hg
  ·rw [if_neg hij]
   refine hkeep _ _ (L.obj i g' h) fun e => hij ?_
   subst e
   have h1 := (List.getElem?_eq_some_iff.1 h)
   have h2 := (List.getElem?_eq_some_iff.1 hj)
   obtain ⟨a1, a2⟩ := h1
   obtain ⟨b1, b2⟩ := h2
   exact (List.getElem_inj L.nd).1 (a2.trans b2.symm)
 ·rw [e, hG] at hmb
  cases Option.some.inj hmb
theorem yR.push {w wr w4 : World} {l0 : List SDe} {v vo vr vr' : Value} {gs : List Nat} {D : DataW Unit} {od : List Nat} {S : Nat → V4} {rest : List Int} {x : Int} (L : yR w wr l0 v vo vr gs D od S rest)
  (hown : w4.ownsRow w.heap.size 3 1 vr' (rest.length + 1) (rest.map encI ++ [encI x])) (hg : wr.grownBy w4 vr.ownBlock) (hb : Below w.heap.size w w4) : yR w w4 l0 v vo vr' gs D od S (rest ++ [x]) := by
 have hkeep : ∀ (i : Nat) (o : Obj), wr.heap[i]? = some o → (∀ cur, o ≠ .cells cur 3 (0, 0)) → w4.heap[i]? = some o := fun i o h hne => (hg.block i (xq h) (kW L.rst h hne)).trans h
 have hrow : ∀ {v : Value} {n : Nat} {xs : List Value}, wr.ownsRow w.heap.size 60 1 v n xs → w4.ownsRow w.heap.size 60 1 v n xs := fun h => yE h fun i hi => by
  obtain ⟨cur, hc, _⟩ := vG h hi
  rw [hkeep i _ hc (by intro cur e; injection e with _ e2 _; exact absurd e2 (by decide)), hc]
 obtain ⟨es, ck, hmb, hmr⟩ := L.map
 refine ⟨L.len, L.odl, L.odb, fun j g h => hkeep _ _ (L.obj j g h) (by intro cur e; injection e with _ e2 _; exact absurd e2 (by decide)), L.nd, L.big, hrow L.row, hrow L.ord, by simpa using hown, ⟨es, ck, hkeep _ _ hmb (by intro cur e; cases e), hmr⟩, L.key, hb⟩
theorem yR.look {w wr : World} {l0 : List SDe} {v vo vr : Value} {gs : List Nat} {D : DataW Unit} {od : List Nat} {S : Nat → V4} {rest : List Int} (L : yR w wr l0 v vo vr gs D od S rest) (s : ByteArray) (hs : s.size ≤ maxLen) :
  (Instr.lookup 81 (.map (some w.heap.size)) (.string s) false).run Tryz.prog wr = .ok (ptrV gs (vH (nmD l0) s l0.length)) wr := by
 obtain ⟨u, ps, hrun, hu⟩ := L.map.lookup law9 Tryz.underlying81 (zero58 wr) (zd := .lit (.int .i64 (-1))) (zp := []) rfl (WideMaps.keyOf_string_mk (P := Tryz.prog) Tryz.underlying9 hs)
 rw [hrun]
 rw [L.key s] at hu
 congr 1
 rcases zEn hu with ⟨rfl, h2⟩ | ⟨g, rfl, h2⟩
 ·cases hx : vH (nmD l0) s l0.length with
  | none => rfl
  | some j =>
   rw [hx] at h2
   simp only [qQq] at h2
   injection h2 with h3
   injection h3 with _ h4
   omega
 ·cases hx : vH (nmD l0) s l0.length with
  | none =>
   rw [hx] at h2
   simp only [qQq] at h2
   injection h2 with h3
   injection h3 with _ h4
   omega
  | some j =>
   rw [hx] at h2
   simp only [qQq] at h2
   injection h2 with h3
   injection h3 with _ h4
   simp only [ptrV]
   congr 1
   omega
theorem upd_self (S : Nat → V4) (j : Nat) : upd S j (S j) = S := by
 funext i
 unfold upd
 split
 ·subst_vars; rfl
 ·rfl
structure zQy (w wr : World) (l0 : List SDe) (v vo vr : Value) (gs : List Nat) (D : DataW Unit) (od : List Nat) (S : Nat → V4) (rest : List Int) (gb : Nat) (pb : Array Value) : Prop where
 two : yR w wr l0 v vo vr gs D od S rest
 box : wr.heap[gb]? = some (.cells pb 72 (0, 0))
section
variable {w wr : World} {l0 : List SDe} {v vo vr : Value} {gs : List Nat} {D : DataW Unit} {od : List Nat} {S : Nat → V4} {rest : List Int} {gb : Nat} {pb : Array Value}
theorem zQy.put {w3 : World} (L : zQy w wr l0 v vo vr gs D od S rest gb pb) {j g : Nat} (hj : gs[j]? = some g) {v' : V4} (hk : xV wr w3 g none)
  (hg : w3.heap[g]? = some (mkD l0 j v').obj) (hb : Below w.heap.size w w3) : zQy w w3 l0 v vo vr gs D od (upd S j v') rest gb pb :=
 ⟨L.two.put hj hk hg hb, (hk.2 gb (xq L.box) (fun e => by
  have hG := L.two.obj j g hj
  rw [← e, L.box] at hG
  have h2 := Option.some.inj hG
  unfold DS.obj at h2
  injection h2 with _ h3 _
  exact absurd h3 (by decide)) (by simp)).trans L.box⟩
theorem zQy.keep {w3 : World} (L : zQy w wr l0 v vo vr gs D od S rest gb pb) (hb : Below wr.heap.size wr w3) : zQy w w3 l0 v vo vr gs D od S rest gb pb := ⟨L.two.keep hb, qV L.box hb⟩
theorem zQy.is60 (L : zQy w wr l0 v vo vr gs D od S rest gb pb) {j g : Nat} (hj : gs[j]? = some g) : xE w wr g (rdD l0 j).f0 (rdD l0 j).f1 (rdD l0 j).f2.f0 (rdD l0 j).f2.f1 (rdD l0 j).f3 (rdD l0 j).f4 (rdD l0 j).f5 (S j).owes (S j).paid (S j).taken (S j).done :=
 ⟨L.two.obj j g hj, Nat.le_of_lt (L.two.big g (List.mem_of_getElem? hj))⟩
theorem there3 (L : zQy w wr l0 v vo vr gs D od S rest gb pb) {j g : Nat} (hj : gs[j]? = some g) (day : Int) :
  Calls Tryz.prog 37 #[.pointer (some ⟨g, 0, none⟩), .int .i64 day] wr fun e w' => e = .returned (.bool (xy (rdD l0 j) (S j) day)) ∧ zQy w w' l0 v vo vr gs D od S rest gb pb := by
 have hf : vM.f (rdD l0 j).f0 (rdD l0 j).f1 (rdD l0 j).f2.f0 (rdD l0 j).f2.f1 (rdD l0 j).f3 (rdD l0 j).f4 (rdD l0 j).f5 (S j).owes (S j).paid (S j).taken (S j).done day = some (xy (rdD l0 j) (S j) day, (rdD l0 j).f0, (rdD l0 j).f1, (rdD l0 j).f2.f0, (rdD l0 j).f2.f1, (rdD l0 j).f3, (rdD l0 j).f4, (rdD l0 j).f5, (S j).owes, (S j).paid, (S j).taken, (S j).done) := by
  unfold vM.f xy
  split <;> rfl
 refine (vM.calls g _ _ _ _ _ _ _ _ _ _ _ day _ _ _ _ _ _ _ _ _ _ _ _ w wr (L.is60 hj) L.two.bel hf).mono ?_
 rintro e w' ⟨rfl, hI, hB, hK⟩
 have h2 := L.put hj (v' := S j) hK hI.1 hB
 rw [upd_self] at h2
 exact ⟨rfl, h2⟩
theorem pay3 (L : zQy w wr l0 v vo vr gs D od S rest gb pb) {j g : Nat} (hj : gs[j]? = some g) (left day : Int) :
  Calls Tryz.prog 49 #[.pointer (some ⟨g, 0, none⟩), .int .i64 left, .int .i64 day] wr fun e w' => e = .returned (.int .i64 (payV (S j) left day).1) ∧ zQy w w' l0 v vo vr gs D od (upd S j (payV (S j) left day).2) rest gb pb := by
 refine (zDg g _ _ _ _ _ _ _ _ _ _ _ left day w wr (L.is60 hj) L.two.bel).mono ?_
 rintro e w' ⟨rfl, hI, hB, hK⟩
 exact ⟨rfl, L.put hj (v' := (payV (S j) left day).2) hK hI.1 hB⟩
theorem named3 (k : Nat) (L : zQy w wr l0 v vo vr gs D od S rest gb pb) {j g : Nat} (hj : gs[j]? = some g) (left day dsc : Int)
  (hd : jX.f k (rdD l0 j).f0 (rdD l0 j).f1 (rdD l0 j).f2.f0 (rdD l0 j).f2.f1 (rdD l0 j).f3 (rdD l0 j).f4 (rdD l0 j).f5 (S j).owes (S j).paid (S j).taken (S j).done = some (dsc, (rdD l0 j).f0, (rdD l0 j).f1, (rdD l0 j).f2.f0, (rdD l0 j).f2.f1, (rdD l0 j).f3, (rdD l0 j).f4, (rdD l0 j).f5, (S j).owes, (S j).paid, (S j).taken, (S j).done)) :
  Calls Tryz.prog 48 #[.pointer (some ⟨g, 0, none⟩), .int .i64 left, .int .i64 day] wr fun e w' => e = .returned (.int .i64 (yJ (rdD l0 j) dsc (S j) left day).1) ∧ zQy w w' l0 v vo vr gs D od (upd S j (yJ (rdD l0 j) dsc (S j) left day).2) rest gb pb := by
 refine (qQk k g _ _ _ _ _ _ _ _ _ _ _ left day dsc w wr (L.is60 hj) L.two.bel hd).mono ?_
 rintro e w' ⟨rfl, hI, hB, hK⟩
 exact ⟨rfl, L.put hj (v' := (yJ (rdD l0 j) dsc (S j) left day).2) hK hI.1 hB⟩
end
theorem ptr_eql (g : Nat) (w : World) : Sem.run Tryz.prog (binOp BinOp.neq 60 (.pointer (some ⟨g, 0, none⟩)) (.pointer none)) w = .ok (.bool true) w := by kernel_rfl
theorem ptr_eql0 (w : World) : Sem.run Tryz.prog (binOp BinOp.neq 60 (.pointer none) (.pointer none)) w = .ok (.bool false) w := by kernel_rfl
theorem zWk (ls : Nat → Int) : ∀ n, (ordA ls n).length = n
 | 0 => rfl
 | m + 1 => by
  unfold ordA
  rw [List.length_map, Array.length_toList, zKb, Array.size_ofFn]
theorem qWb (ls : Nat → Int) : ∀ n, ∀ j ∈ ordA ls n, j < n
 | 0, j, h => by cases h
 | m + 1, j, h => by
  unfold ordA at h
  obtain ⟨x, _, rfl⟩ := List.mem_map.1 h
  exact x.2
theorem yR.start {w wr w1 w2 : World} {l0 : List SDe} {cv : Nat → Int} {v vo : Value} {gs : List Nat} {D : DataW Unit} {od : List Nat} (L : zEd w wr w.heap.size (fun i => (rdD l0 i).f0) (iniD l0 cv) l0.length v gs D) (hb : Below wr.heap.size wr w1)
  (ho : w2.ownsRow wr.heap.size 60 1 vo l0.length (od.map fun j => encP (gs.getD j 0))) (hs : w1.grownBy w2 vo.ownBlock) (h1 : od.length = l0.length) (h2 : ∀ j ∈ od, j < l0.length) : yR w w2 l0 v vo (.slice none 0 0) gs D od (iniV cv) [] := by
 have hk : Below wr.heap.size wr w2 := hb.grown hs hb.size fun b e => (vG ho e.symm).choose_spec.2
 have L2 := L.keep hk
 refine ⟨L2.len, h1, h2, L2.obj, L2.nd, L2.big, L2.row, ⟨ho.1, ?_⟩, ⟨rfl, .inl ⟨rfl, rfl⟩⟩, L2.map, L2.key, L2.bel⟩
 rcases ho.2 with h | ⟨g, cap, cur, e, hg, h⟩
 ·exact .inl h
 ·exact .inr ⟨g, cap, cur, e, Nat.le_trans L.bel.size hg, h⟩
theorem cb4 {w : World} {g : Nat} {t : TypeId} {v0 v1 v2 v3 : Value} (h : w.heap[g]? = some (.cells #[v0, v1, v2, v3] t (0, 0))) : w.cell? ⟨g, 0, none⟩ = some v0 ∧ w.cell? ⟨g, 1, none⟩ = some v1 ∧ w.cell? ⟨g, 2, none⟩ = some v2 ∧ w.cell? ⟨g, 3, none⟩ = some v3 :=
 ⟨(zx h 0).trans rfl, (zx h 1).trans rfl, (zx h 2).trans rfl, (zx h 3).trans rfl⟩
theorem uE {W : World} {base : Nat} {e : TypeId} {size : Nat} {v : Value} {k : Nat} {xs : List Value} (h : W.ownsRow base e size v k xs) : ∃ a c, v = .slice a k c := by
 rcases h.2 with ⟨rfl, rfl⟩ | ⟨g, cap, cur, rfl, _⟩
 ·exact ⟨_, _, rfl⟩
 ·exact ⟨_, _, rfl⟩
theorem zZm {W : World} {base : Nat} {e : TypeId} {a : Option Addr} {c k : Nat} {xs : List Value} (h : W.ownsRow base e 1 (.slice a k c) k xs) (j : Nat) (hj : j < k) : ∃ ad, a = some ad ∧ W.cell? (ad.add j) = xs[j]? := by
 rcases h.2 with ⟨e1, rfl⟩ | ⟨g, cap, cur, e1, hg, hb, h3⟩
 ·omega
 ·injection e1 with e2 _ e3
  subst e2
  subst e3
  refine ⟨⟨g, 0, none⟩, rfl, ?_⟩
  have e4 : (⟨g, 0, none⟩ : Addr).add j = ⟨g, j, none⟩ := by
   unfold Addr.add
   by_cases hj : j = 0 <;> simp [hj]
  rw [e4]
  exact World.ownsRow.cellAt h j (by omega)
theorem yR.ordAt {w wr : World} {l0 : List SDe} {v vr : Value} {ao : Option Addr} {co : Nat} {gs : List Nat} {D : DataW Unit} {od : List Nat} {S : Nat → V4} {rest : List Int} (L : yR w wr l0 v (.slice ao l0.length co) vr gs D od S rest) (k : Nat) (hk : k < l0.length) :
  ∃ ad, ao = some ad ∧ wr.cell? (ad.add k) = some (.pointer (some ⟨gs.getD (od.getD k 0) 0, 0, none⟩)) ∧ od.getD k 0 < l0.length ∧ gs[od.getD k 0]? = some (gs.getD (od.getD k 0) 0) := by
 obtain ⟨ad, e, hc⟩ := zZm L.ord k hk
 have hk2 : k < od.length := by rw [L.odl]; exact hk
 have ho : od[k]? = some (od.getD k 0) := by
  rw [List.getD_eq_getElem?_getD, List.getElem?_eq_getElem hk2]
  rfl
 have hlt := L.odb _ (List.mem_of_getElem? ho)
 refine ⟨ad, e, ?_, hlt, ?_⟩
 ·rw [hc, List.getElem?_map, ho]
  rfl
 ·generalize od.getD k 0 = j at hlt
  rw [List.getD_eq_getElem?_getD, List.getElem?_eq_getElem (by rw [L.len]; exact hlt)]
  rfl
theorem zZj (l0 : List SDe) (cv : Nat → Int) (dsc : Nat → Int → Int) (od : List Nat) (l1 : List SPa) (pc : Nat → Int) : ∀ i, (runP l0 cv dsc od l1 pc i).2.length = i
 | 0 => rfl
 | i + 1 => by
  unfold runP
  rw [List.length_append, zZj l0 cv dsc od l1 pc i]
  rfl
theorem qXx : (Tryz.prog.info? 3).map (fun i => (i.zero, i.size, i.bytes)) = some (some (.int .i64 0), 1, 8) := by kernel_rfl
def zJb (a b : ByteArray) : Bool := a.toList == b.toList
theorem qJg (d : SDe) (g : Nat) (a : ByteArray) (W : World) (hg : W.cell? ⟨g, 0, none⟩ = some (.string a)) :
  Calls Tryz.prog 31 #[.agg #[.string d.f0, .int .i64 d.f1, .int .i64 d.f2.f0, .int .i64 d.f2.f1, .int .i64 d.f3, .int .i64 d.f4, .int .i64 d.f5], .pointer (some ⟨g, 0, none⟩)] W fun e w' => e = .returned (.bool (zJb d.f0 a)) ∧ Below W.heap.size W w' := by
 have hlt := World.block_lt_of_cell? W _ hg
 go_enter Tryz.func31, Tryz.ntmps31
 have hg2 : (W.alloc (.cells #[.string d.f0, .int .i64 d.f1, .int .i64 d.f2.f0, .int .i64 d.f2.f1, .int .i64 d.f3, .int .i64 d.f4, .int .i64 d.f5] 53)).cell? ⟨g, 0, none⟩ = some (.string a) := (World.cell?_alloc_lt (h := hlt) ..).trans hg
 go_wp2
 go_ret
 exact ⟨rfl, (Below.refl _ _).alloc (Nat.le_refl _) _⟩
def twB (l0 : List SDe) (i : Nat) : Bool := (l0.take i).any fun o => zJb o.f0 (rdD l0 i).f0
theorem qXc (A : Option Addr) (c : Nat) (l : List SDe) (w : World) (g : Nat) (a : ByteArray) (hr : Kd.C k53 w A l.length l) (hlen : l.length ≤ 200) (hg : w.cell? ⟨g, 0, none⟩ = some (.string a)) :
  Calls Tryz.prog 54 #[.slice A l.length c, .func (.func 31) #[] #[.pointer (some ⟨g, 0, none⟩)]] w fun e w' => (∃ r : Int, e = .returned (.int .i64 r) ∧ decide (0 ≤ r) = l.any fun o => zJb o.f0 a) ∧ Below w.heap.size w w' := by
 have HR := zQ.mk hr
 have hlt := World.block_lt_of_cell? w _ hg
 go_enter Tryz.func54, Tryz.ntmps54
 go_wp2
 go_loopg [8] l.length (fun gg s8 wr => ∃ kk : Nat, kk ≤ l.length ∧ l.length - kk ≤ gg ∧ s8 = .int .i64 (kk : Int) ∧ Hid (Below w.heap.size w wr) ∧ Hid (∀ j : Nat, j < kk → zJb (rdD l j).f0 a = false))
 case atStart => exact ⟨0, Nat.zero_le _, by omega, rfl, Below.refl _ _, (show ∀ j : Nat, j < 0 → _ from fun j hj => absurd hj (Nat.not_lt_zero _))⟩
 case round =>
  obtain ⟨kk, hkk, hgg, rfl, HBL, HA⟩ := hrel
  by_cases hlt2 : kk < l.length
  ·have hltz : (kk : Int) < (l.length : Int) := by omega
   obtain ⟨ad, e0, hx0, hx1, hx2, hx3, hx4, hx5, hx6⟩ := kK HR.out (kk : Int) (by omega) hltz
   cases e0
   simp only [Int.toNat_natCast] at hx0 hx1 hx2 hx3 hx4 hx5 hx6
   have HB : zQ (Below w.heap.size w wr) := ⟨HBL.out⟩
   replace hx0 := hz HB hx0
   replace hx1 := hz HB hx1
   replace hx2 := hz HB hx2
   replace hx3 := hz HB hx3
   replace hx4 := hz HB hx4
   replace hx5 := hz HB hx5
   replace hx6 := hz HB hx6
   have hcall := qJg (yx l kk) g a wr ((HBL.out.cell hlt).trans hg)
   cases hq : zJb (yx l kk).f0 a with
   | true =>
    rw [hq] at hcall
    have HQ : Hid (zJb (rdD l kk).f0 a = true) := hq
    clear hq
    go_wp2_with (go_at_call 31; (with_reducible refine hcall.mono ?_); rintro e w' ⟨rfl, hb⟩)
    go_ret
    refine ⟨⟨(kk : Int), rfl, ?_⟩, HBL.out.trans (hb.mono HBL.out.size)⟩
    rw [decide_eq_true (show (0 : Int) ≤ (kk : Int) by omega)]
    symm
    rw [List.any_eq_true]
    refine ⟨rdD l kk, ?_, HQ.out⟩
    show l.getD (kk : Int).toNat z53 ∈ l
    rw [Int.toNat_natCast, List.getD_eq_getElem?_getD, List.getElem?_eq_getElem hlt2]
    exact List.getElem_mem hlt2
   | false =>
    rw [hq] at hcall
    have HQ : Hid (zJb (rdD l kk).f0 a = false) := hq
    clear hq
    go_wp2_with (go_at_call 31; (with_reducible refine hcall.mono ?_); rintro e w' ⟨rfl, hb⟩)
    go_roundg (l.length - (kk + 1))
    case measure => omega
    case rel =>
     refine ⟨kk + 1, by omega, by omega, by first | rfl | (congr 1; omega), HBL.out.trans (hb.mono HBL.out.size), ?_⟩
     show ∀ j : Nat, j < kk + 1 → _
     intro j hj
     by_cases e : j = kk
     ·subst e
      exact HQ.out
     ·exact HA.out j (by omega)
  ·have hltz : ¬ (kk : Int) < (l.length : Int) := by omega
   have hkl : kk = l.length := by omega
   go_wp2
   go_ret
   refine ⟨⟨-1, rfl, ?_⟩, HBL.out⟩
   symm
   rw [show decide ((0 : Int) ≤ -1) = false from rfl, List.any_eq_false]
   intro x hx
   obtain ⟨j, hj, rfl⟩ := List.getElem_of_mem hx
   have h2 := HA.out j (by omega)
   have h3 : rdD l j = l[j] := by
    show l.getD (j : Int).toNat z53 = _
    rw [Int.toNat_natCast, List.getD_eq_getElem?_getD, List.getElem?_eq_getElem hj]
    rfl
   rw [← h3, h2]
   simp
theorem qKv (A : Option Addr) (c : Nat) (l : List SDe) (w : World) (g : Nat) (a : ByteArray) (hr : Kd.C k53 w A l.length l) (hlen : l.length ≤ 200) (hg : w.cell? ⟨g, 0, none⟩ = some (.string a)) :
  Calls Tryz.prog 30 #[.slice A l.length c, .func (.func 31) #[] #[.pointer (some ⟨g, 0, none⟩)]] w fun e w' => e = .returned (.bool (l.any fun o => zJb o.f0 a)) ∧ Below w.heap.size w w' := by
 have HI := qXc A c l w g a hr hlen hg
 clear hr hg
 go_enter Tryz.func30, Tryz.ntmps30
 go_wp2_with (go_at_call 54; (with_reducible refine HI.mono ?_); rintro e w' ⟨⟨r, rfl, hr⟩, hb⟩)
 go_ret
 exact ⟨by rw [← hr]; rfl, hb⟩
theorem cut44 (A : Option Addr) (n c j : Nat) (hj : j ≤ n) (hc : n ≤ c) (W : World) : (Instr.slice 22 (.slice A n c) none (some (.int .i64 (j : Int))) none).run Tryz.prog W = .ok (.slice A j c) W := by
 obtain ⟨i0, hi, _⟩ := Option.map_eq_some_iff.1 info53
 have ht := Tryz.underlying22
 have hel : Tryz.prog.elem 22 = 53 := by simp [Program.elem, ht]
 have hu : Tryz.prog.underlying 22 = some (.slice (Tryz.prog.elem 22)) := by rw [hel]; exact ht
 have ha : (A.map fun x => x.add 0) = A := by cases A <;> simp [Addr.add]
 rw [run_slice_h W 22 A n c hu .i64 (j : Int) (by omega) (by omega), hel]
 simp [sizeOf, typeInfo, hi, sliced, Result.andThen, ha]
def dayB (d : Int) : Bool := decide (1 ≤ d) && decide (d ≤ 3652059)
def outB (d : SDe) : Bool := (decide (d.f3 < 0) || decide (d.f3 > 10000)) || (decide (d.f4 < 0) || decide (d.f4 > d.f3)) || (decide (d.f5 < 0) || decide (d.f5 > 1000))
def dF (l0 : List SDe) (nb : Nat → Bool) (mf : Nat → Int) (i : Nat) : Int :=
 if nb i = false then 5 else if twB l0 i = true then 7 else if dayB (rdD l0 i).f1 = false then 1 else if 0 < i ∧ (rdD l0 i).f1 < (rdD l0 ((i - 1 : Nat) : Int)).f1 then 8 else if mf i ≠ 0 then mf i else if outB (rdD l0 i) = true then 1 else 0
def zBq (f : Nat → Int) (n : Nat) (r : Int) : Prop := (r = 0 ∧ ∀ i, i < n → f i = 0) ∨ ∃ i, i < n ∧ (∀ j, j < i → f j = 0) ∧ f i = r ∧ r ≠ 0
def ChkD (l0 : List SDe) (nb : Nat → Bool) (mf : Nat → Int) (r : Int) : Prop := if l0.length > 200 then r = 2 else zBq (dF l0 nb mf) l0.length r
theorem uW (a b c : Int) : jZ.f a b c = some (decide (a < b) || decide (a > c)) := by
 unfold jZ.f
 by_cases h : a < b
 ·rw [if_pos h, decide_eq_true h]
  rfl
 ·rw [if_neg h, decide_eq_false h]
  rfl
theorem uN (a : Int) : jM.f a = some (dayB a) := by
 unfold jM.f
 rw [uW]
 show some (!(decide (a < 1) || decide (a > 3652059))) = _
 unfold dayB
 congr 1
 by_cases h1 : a < 1 <;> by_cases h2 : a > 3652059 <;> simp [h1, h2] <;> omega
theorem kL {l0 : List SDe} {nb : Nat → Bool} {mf : Nat → Int} {i : Nat} {r : Int} (hb : ¬ 200 < l0.length) (hi : i < l0.length) (hz : ∀ j, j < i → dF l0 nb mf j = 0) (h : dF l0 nb mf i = r) (hr : r ≠ 0) : ChkD l0 nb mf r := by
 unfold ChkD
 rw [if_neg hb]
 exact .inr ⟨i, hi, hz, h, hr⟩
theorem qQd (k : Nat) (A0 : Option Addr) (c0 : Nat) (l0 : List SDe) (nb : Nat → Bool) (mf : Nat → Int) (w : World) (hr0 : Kd.C k53 w A0 l0.length l0) (hc0 : l0.length ≤ c0)
  (hnb : ∀ i : Nat, i < l0.length → jV.f (rdD l0 i).f0 = some (nb i)) (hmf : ∀ i : Nat, i < l0.length → qW.f k (rdD l0 i).f2.f0 (rdD l0 i).f2.f1 = some (mf i)) :
  Calls Tryz.prog 8 #[.slice A0 l0.length c0] w fun e w' => ∃ r : Int, e = .returned (.int .i64 r) ∧ ChkD l0 nb mf r ∧ Below w.heap.size w w' := by
 have HR0 := zQ.mk hr0
 have HNB : Aside _ := hnb
 have HMF : Aside _ := hmf
 clear hnb hmf hr0
 go_enter Tryz.func8, Tryz.ntmps8
 by_cases hbig : 200 < l0.length
 ·have hbigz : (200 : Int) < (l0.length : Int) := by omega
  go_wp2
  go_ret
  exact ⟨2, rfl, by unfold ChkD; rw [if_pos hbig], Below.refl _ _⟩
 ·have hbigz : ¬ (200 : Int) < (l0.length : Int) := by omega
  go_wp2_with fail
  go_loopg [11] l0.length (fun g1 vi wr => ∃ i : Nat, vi = .int .i64 i ∧ i ≤ l0.length ∧ l0.length - i ≤ g1 ∧ Hid (∀ j : Nat, j < i → dF l0 nb mf j = 0) ∧ Hid (Below w.heap.size w wr))
  case atStart => exact ⟨0, rfl, Nat.zero_le _, Nat.le_refl _, (show ∀ j : Nat, j < 0 → _ from fun j hj => absurd hj (Nat.not_lt_zero _)), Below.refl _ _⟩
  case round =>
   obtain ⟨i, rfl, hi, hg1, HZ, HBL⟩ := hrel
   by_cases hlt : i < l0.length
   ·have hltz : (i : Int) < (l0.length : Int) := by omega
    obtain ⟨ad, e0, hx0, hx1, hx2, hx3, hx4, hx5, hx6⟩ := kK HR0.out (i : Int) (by omega) hltz
    cases e0
    simp only [Int.toNat_natCast] at hx0 hx1 hx2 hx3 hx4 hx5 hx6
    obtain ⟨d, hd⟩ : ∃ d, d = yx l0 i := ⟨_, rfl⟩
    rw [← hd] at hx0 hx1 hx2 hx3 hx4 hx5 hx6
    have HD : Hid (rdD l0 i = d) := hd.symm
    have hnm := HNB.out i hlt
    have hmo := HMF.out i hlt
    rw [show rdD l0 i = d from hd.symm] at hnm hmo
    clear hd
    have HB : zQ (Below w.heap.size w wr) := ⟨HBL.out⟩
    replace hx0 := hz HB hx0
    replace hx1 := hz HB hx1
    replace hx2 := hz HB hx2
    replace hx3 := hz HB hx3
    replace hx4 := hz HB hx4
    replace hx5 := hz HB hx5
    replace hx6 := hz HB hx6
    go_upto_region 6 with fail
    have BK4 : Hid ((wr.alloc (.cells #[.string d.f0, .int .i64 d.f1, .int .i64 d.f2.f0, .int .i64 d.f2.f1, .int .i64 d.f3, .int .i64 d.f4, .int .i64 d.f5] 53 (0, 0))).heap[wr.heap.size]? = some (.cells #[.string d.f0, .int .i64 d.f1, .int .i64 d.f2.f0, .int .i64 d.f2.f1, .int .i64 d.f3, .int .i64 d.f4, .int .i64 d.f5] 53 (0, 0))) := xB wr (.cells #[.string d.f0, .int .i64 d.f1, .int .i64 d.f2.f0, .int .i64 d.f2.f1, .int .i64 d.f3, .int .i64 d.f4, .int .i64 d.f5] 53 (0, 0))
    have HB4 : Hid (Below w.heap.size w (wr.alloc (.cells #[.string d.f0, .int .i64 d.f1, .int .i64 d.f2.f0, .int .i64 d.f2.f1, .int .i64 d.f3, .int .i64 d.f4, .int .i64 d.f5] 53 (0, 0)))) := HBL.out.alloc HBL.out.size _
    have HGB : Hid (w.heap.size ≤ wr.heap.size) := HBL.out.size
    generalize wr.heap.size = gb at BK4 HGB ⊢
    generalize wr.alloc _ = w3 at BK4 HB4 ⊢
    clear hx0 hx1 hx2 hx3 hx4 hx5 hx6 HB
    obtain ⟨y0, y1, y2, y3, y4, y5, y6⟩ := cz7 BK4.out
    have hcut := cut44 (some ad) l0.length c0 i hi hc0
    have HCT : Aside _ := fun (W : World) (hB : Below w.heap.size w W) (hg : W.cell? ⟨gb, 0, none⟩ = some (.string d.f0)) => qKv (some ad) c0 (l0.take i) W gb d.f0 (Kd.C_take (Kd.jC HR0.out hB) hi) (by rw [List.length_take]; omega) hg
    rw [show (l0.take i).length = i by rw [List.length_take]; omega] at HCT
    obtain ⟨b1, hb1⟩ : ∃ b1, b1 = nb i := ⟨_, rfl⟩
    rw [← hb1] at hnm
    have HN1 : Hid (nb i = b1) := hb1.symm
    clear hb1
    obtain ⟨b2, hb2⟩ : ∃ b2, b2 = (l0.take i).any (fun o => zJb o.f0 d.f0) := ⟨_, rfl⟩
    rw [← hb2] at HCT
    have HN2 : Hid (twB l0 i = b2) := (show twB l0 i = b2 by unfold twB; rw [HD.out]; exact hb2.symm)
    clear hb2
    have hdy := uN d.f1
    obtain ⟨b3, hb3⟩ : ∃ b3, b3 = dayB d.f1 := ⟨_, rfl⟩
    rw [← hb3] at hdy
    have HN3 : Hid (dayB (rdD l0 i).f1 = b3) := (show dayB (rdD l0 i).f1 = b3 by rw [HD.out]; exact hb3.symm)
    clear hb3
    cases b1 with
    | false =>
     go_wp2_with (go_at_call 29; (with_reducible refine (jV.calls d.f0 false _ hnm).mono ?_); rintro e w5 ⟨rfl, hb⟩; have HB5 : Hid (Below w.heap.size w _) := HB4.out.trans (hb.mono HB4.out.size); have BK5 : Hid (_ = _) := qV BK4.out hb; clear y0 y1 y2 y3 y4 y5 y6; obtain ⟨y0, y1, y2, y3, y4, y5, y6⟩ := cz7 BK5.out)
     go_ret
     exact ⟨5, rfl, kL hbig hlt HZ.out (by unfold dF; rw [if_pos HN1.out]) (by decide), HB5.out⟩
    | true =>
    cases b2 with
    | true =>
     go_wp2_with (first | (go_at_call 29; (with_reducible refine (jV.calls d.f0 true _ hnm).mono ?_); rintro e w5 ⟨rfl, hb⟩; have HB5 : Hid (Below w.heap.size w _) := HB4.out.trans (hb.mono HB4.out.size); have BK5 : Hid (_ = _) := qV BK4.out hb; clear y0 y1 y2 y3 y4 y5 y6; obtain ⟨y0, y1, y2, y3, y4, y5, y6⟩ := cz7 BK5.out) | (go_at_call 30; have hh := HCT.out _ HB5.out y0; (with_reducible refine hh.mono ?_); clear hh; rintro e w6 ⟨rfl, hb⟩; have HB6 : Hid (Below w.heap.size w _) := HB5.out.trans (hb.mono HB5.out.size); have BK6 : Hid (_ = _) := qV BK5.out hb; clear y0 y1 y2 y3 y4 y5 y6; obtain ⟨y0, y1, y2, y3, y4, y5, y6⟩ := cz7 BK6.out))
     go_ret
     exact ⟨7, rfl, kL hbig hlt HZ.out (by unfold dF; rw [if_neg (by rw [HN1.out]; decide), if_pos HN2.out]) (by decide), HB6.out⟩
    | false =>
    cases b3 with
    | false =>
     go_wp2_with (first | (go_at_call 29; (with_reducible refine (jV.calls d.f0 true _ hnm).mono ?_); rintro e w5 ⟨rfl, hb⟩; have HB5 : Hid (Below w.heap.size w _) := HB4.out.trans (hb.mono HB4.out.size); have BK5 : Hid (_ = _) := qV BK4.out hb; clear y0 y1 y2 y3 y4 y5 y6; obtain ⟨y0, y1, y2, y3, y4, y5, y6⟩ := cz7 BK5.out) | (go_at_call 30; have hh := HCT.out _ HB5.out y0; (with_reducible refine hh.mono ?_); clear hh; rintro e w6 ⟨rfl, hb⟩; have HB6 : Hid (Below w.heap.size w _) := HB5.out.trans (hb.mono HB5.out.size); have BK6 : Hid (_ = _) := qV BK5.out hb; clear y0 y1 y2 y3 y4 y5 y6; obtain ⟨y0, y1, y2, y3, y4, y5, y6⟩ := cz7 BK6.out) | (go_at_call 32; (with_reducible refine (jM.calls d.f1 false _ hdy).mono ?_); rintro e w7 ⟨rfl, ⟨nd, rfl⟩⟩))
     go_ret
     exact ⟨1, rfl, kL hbig hlt HZ.out (by unfold dF; rw [if_neg (by rw [HN1.out]; decide), if_neg (by rw [HN2.out]; decide), if_pos HN3.out]) (by decide), qM HB6.out _⟩
    | true =>
     go_upto_region 12 with (first | (go_at_call 29; (with_reducible refine (jV.calls d.f0 true _ hnm).mono ?_); rintro e w5 ⟨rfl, hb⟩; have HB5 : Hid (Below w.heap.size w _) := HB4.out.trans (hb.mono HB4.out.size); have BK5 : Hid (_ = _) := qV BK4.out hb; clear y0 y1 y2 y3 y4 y5 y6; obtain ⟨y0, y1, y2, y3, y4, y5, y6⟩ := cz7 BK5.out) | (go_at_call 30; have hh := HCT.out _ HB5.out y0; (with_reducible refine hh.mono ?_); clear hh; rintro e w6 ⟨rfl, hb⟩; have HB6 : Hid (Below w.heap.size w _) := HB5.out.trans (hb.mono HB5.out.size); have BK6 : Hid (_ = _) := qV BK5.out hb; clear y0 y1 y2 y3 y4 y5 y6; obtain ⟨y0, y1, y2, y3, y4, y5, y6⟩ := cz7 BK6.out) | (go_at_call 32; (with_reducible refine (jM.calls d.f1 true _ hdy).mono ?_); rintro e w7 ⟨rfl, ⟨nd, rfl⟩⟩))
     have HB7 : Hid (Below w.heap.size w (w6.drewN nd)) := qM HB6.out nd
     have BK7 : Hid ((w6.drewN nd).heap[gb]? = some (.cells #[.string d.f0, .int .i64 d.f1, .int .i64 d.f2.f0, .int .i64 d.f2.f1, .int .i64 d.f3, .int .i64 d.f4, .int .i64 d.f5] 53 (0, 0))) := zJ BK6.out nd
     clear y0 y1 y2 y3 y4 y5 y6
     generalize w6.drewN nd = w7 at HB7 BK7 ⊢
     obtain ⟨y0, y1, y2, y3, y4, y5, y6⟩ := cz7 BK7.out
     clear HB6 BK6 HB5 BK5 HB4 BK4 HCT hcut
     go_cut [32] (fun v32 wc => ∃ b4 : Bool, v32 = .bool b4 ∧ Hid (b4 = true ↔ (0 < i ∧ d.f1 < (rdD l0 ((i - 1 : Nat) : Int)).f1)) ∧ Hid (Below w.heap.size w wc) ∧ Hid (wc.heap[gb]? = some (.cells #[.string d.f0, .int .i64 d.f1, .int .i64 d.f2.f0, .int .i64 d.f2.f1, .int .i64 d.f3, .int .i64 d.f4, .int .i64 d.f5] 53 (0, 0))))
     case first =>
      by_cases hi0 : 0 < i
      ·have hi0z : (0 : Int) < (i : Int) := by omega
       obtain ⟨m, hm⟩ : ∃ m, m = i - 1 := ⟨_, rfl⟩
       have hmi : m < l0.length := by omega
       have hmz : (m : Int) < (l0.length : Int) := by omega
       have hm0 : (0 : Int) ≤ (m : Int) := by omega
       obtain ⟨ad2, e2, hv0, hv1, hv2⟩ := kK HR0.out (m : Int) hm0 hmz
       cases e2
       rw [Int.toNat_natCast] at hv1
       replace hv1 := hz ⟨HB7.out⟩ hv1
       have wm : IntKind.i64.wrap ((i : Int) - 1) = (m : Int) := by rw [IntKind.wrap_i64]; omega
       have HM : Hid (m = i - 1) := hm
       clear hm hv0 hv2
       obtain ⟨pm, hpm⟩ : ∃ pm, pm = (yx l0 m).f1 := ⟨_, rfl⟩
       rw [← hpm] at hv1
       have HPM : Hid (pm = (rdD l0 m).f1) := hpm
       clear hpm
       go_wp2
       go_quiet (fail)
       try go_wp2
       go_meet
       case rel =>
        refine ⟨decide (d.f1 < pm), by first | rfl | (simp; done), (show _ ↔ _ from ?_), qM HB7.out _, zJ BK7.out _⟩
        rw [decide_eq_true_iff, HPM.out, HM.out]
        exact ⟨fun h => ⟨hi0, h⟩, fun h => h.2⟩
      ·have hi0z : ¬ (0 : Int) < (i : Int) := by omega
       have hi0d : decide ((0 : Int) < (i : Int)) = false := decide_eq_false hi0z
       go_wp2
       go_quiet (fail)
       try go_wp2
       go_meet
       case rel =>
        refine ⟨false, by first | rfl | (simp; done), (show _ ↔ _ from ?_), qM HB7.out _, zJ BK7.out _⟩
        exact ⟨fun h => (by cases h), fun h => absurd h.1 hi0⟩
     case rest =>
      obtain ⟨b4, rfl, HO, HB8, BK8⟩ := hcut
      clear y0 y1 y2 y3 y4 y5 y6 HB7 BK7
      obtain ⟨y0, y1, y2, y3, y4, y5, y6⟩ := cz7 BK8.out
      cases b4 with
      | true =>
       go_wp2
       go_ret
       exact ⟨8, rfl, kL hbig hlt HZ.out (by unfold dF; rw [if_neg (by rw [HN1.out]; decide), if_neg (by rw [HN2.out]; decide), if_neg (by rw [HN3.out]; decide), if_pos (by rw [HD.out]; exact HO.out.1 (by first | rfl | trivial))]) (by decide), HB8.out⟩
      | false =>
      have HO4 : Hid (¬ (0 < i ∧ (rdD l0 i).f1 < (rdD l0 ((i - 1 : Nat) : Int)).f1)) := fun h => by
       rw [HD.out] at h
       have := HO.out.2 h
       cases this
      obtain ⟨mv, hmv⟩ : ∃ mv, mv = mf i := ⟨_, rfl⟩
      rw [← hmv] at hmo
      have HMV : Hid (mf i = mv) := hmv.symm
      clear hmv HO
      by_cases hm0 : mv = 0
      ·subst hm0
       have ho1 := uW d.f3 0 10000
       have ho2 := uW d.f4 0 d.f3
       have ho3 := uW d.f5 0 1000
       have HO5 : Hid (outB (rdD l0 i) = ((decide (d.f3 < 0) || decide (d.f3 > 10000)) || (decide (d.f4 < 0) || decide (d.f4 > d.f3)) || (decide (d.f5 < 0) || decide (d.f5 > 1000)))) := (show outB (rdD l0 i) = _ by rw [HD.out]; rfl)
       generalize (decide (d.f3 < 0) || decide (d.f3 > 10000)) = o1 at ho1 HO5
       generalize (decide (d.f4 < 0) || decide (d.f4 > d.f3)) = o2 at ho2 HO5
       generalize (decide (d.f5 < 0) || decide (d.f5 > 1000)) = o3 at ho3 HO5
       cases o1 with
       | true =>
        go_wp2_with (first | (go_at_call 33; (with_reducible refine (qW.calls k _ _ 0 _ hmo).mono ?_); rintro e w9 ⟨rfl, hb⟩; have HB9 : Hid (Below w.heap.size w _) := HB8.out.trans (hb.mono HB8.out.size); have BK9 : Hid (_ = _) := qV BK8.out hb; clear y0 y1 y2 y3 y4 y5 y6; obtain ⟨y0, y1, y2, y3, y4, y5, y6⟩ := cz7 BK9.out) | (go_at_call 34; (with_reducible refine (jZ.calls d.f3 0 10000 true _ ho1).mono ?_); rintro e w' ⟨rfl, ⟨nd1, rfl⟩⟩))
        go_ret
        exact ⟨1, rfl, kL hbig hlt HZ.out (by unfold dF; rw [if_neg (by rw [HN1.out]; decide), if_neg (by rw [HN2.out]; decide), if_neg (by rw [HN3.out]; decide), if_neg HO4.out, if_neg (fun h => h HMV.out), if_pos (by rw [HO5.out]; rfl)]) (by decide), qM HB9.out _⟩
       | false =>
       cases o2 with
       | true =>
        go_wp2_with (first | (go_at_call 33; (with_reducible refine (qW.calls k _ _ 0 _ hmo).mono ?_); rintro e w9 ⟨rfl, hb⟩; have HB9 : Hid (Below w.heap.size w _) := HB8.out.trans (hb.mono HB8.out.size); have BK9 : Hid (_ = _) := qV BK8.out hb; clear y0 y1 y2 y3 y4 y5 y6; obtain ⟨y0, y1, y2, y3, y4, y5, y6⟩ := cz7 BK9.out) | (go_at_call 34; (with_reducible refine (jZ.calls d.f3 0 10000 false _ ho1).mono ?_); rintro e w' ⟨rfl, ⟨nd1, rfl⟩⟩) | (go_at_call 34; (with_reducible refine (jZ.calls d.f4 0 d.f3 true _ ho2).mono ?_); rintro e w' ⟨rfl, ⟨nd2, rfl⟩⟩))
        go_ret
        exact ⟨1, rfl, kL hbig hlt HZ.out (by unfold dF; rw [if_neg (by rw [HN1.out]; decide), if_neg (by rw [HN2.out]; decide), if_neg (by rw [HN3.out]; decide), if_neg HO4.out, if_neg (fun h => h HMV.out), if_pos (by rw [HO5.out]; rfl)]) (by decide), qM HB9.out _⟩
       | false =>
       cases o3 with
       | true =>
        go_wp2_with (first | (go_at_call 33; (with_reducible refine (qW.calls k _ _ 0 _ hmo).mono ?_); rintro e w9 ⟨rfl, hb⟩; have HB9 : Hid (Below w.heap.size w _) := HB8.out.trans (hb.mono HB8.out.size); have BK9 : Hid (_ = _) := qV BK8.out hb; clear y0 y1 y2 y3 y4 y5 y6; obtain ⟨y0, y1, y2, y3, y4, y5, y6⟩ := cz7 BK9.out) | (go_at_call 34; (with_reducible refine (jZ.calls d.f3 0 10000 false _ ho1).mono ?_); rintro e w' ⟨rfl, ⟨nd1, rfl⟩⟩) | (go_at_call 34; (with_reducible refine (jZ.calls d.f4 0 d.f3 false _ ho2).mono ?_); rintro e w' ⟨rfl, ⟨nd2, rfl⟩⟩) | (go_at_call 34; (with_reducible refine (jZ.calls d.f5 0 1000 true _ ho3).mono ?_); rintro e w' ⟨rfl, ⟨nd3, rfl⟩⟩))
        go_ret
        exact ⟨1, rfl, kL hbig hlt HZ.out (by unfold dF; rw [if_neg (by rw [HN1.out]; decide), if_neg (by rw [HN2.out]; decide), if_neg (by rw [HN3.out]; decide), if_neg HO4.out, if_neg (fun h => h HMV.out), if_pos (by rw [HO5.out]; rfl)]) (by decide), qM HB9.out _⟩
       | false =>
        go_wp2_with (first | (go_at_call 33; (with_reducible refine (qW.calls k _ _ 0 _ hmo).mono ?_); rintro e w9 ⟨rfl, hb⟩; have HB9 : Hid (Below w.heap.size w _) := HB8.out.trans (hb.mono HB8.out.size); have BK9 : Hid (_ = _) := qV BK8.out hb; clear y0 y1 y2 y3 y4 y5 y6; obtain ⟨y0, y1, y2, y3, y4, y5, y6⟩ := cz7 BK9.out) | (go_at_call 34; (with_reducible refine (jZ.calls d.f3 0 10000 false _ ho1).mono ?_); rintro e w' ⟨rfl, ⟨nd1, rfl⟩⟩) | (go_at_call 34; (with_reducible refine (jZ.calls d.f4 0 d.f3 false _ ho2).mono ?_); rintro e w' ⟨rfl, ⟨nd2, rfl⟩⟩) | (go_at_call 34; (with_reducible refine (jZ.calls d.f5 0 1000 false _ ho3).mono ?_); rintro e w' ⟨rfl, ⟨nd3, rfl⟩⟩))
        go_roundg (l0.length - (i + 1))
        case measure => omega
        case rel =>
         refine ⟨i + 1, by first | rfl | (congr 1; omega), by omega, Nat.le_refl _, ?_, qM HB9.out _⟩
         show ∀ j : Nat, j < i + 1 → dF l0 nb mf j = 0
         intro j hj
         rcases Nat.lt_succ_iff_lt_or_eq.1 hj with h | rfl
         ·exact HZ.out j h
         ·unfold dF
          rw [if_neg (by rw [HN1.out]; decide), if_neg (by rw [HN2.out]; decide), if_neg (by rw [HN3.out]; decide), if_neg HO4.out, if_neg (fun h => h HMV.out), if_neg (by rw [HO5.out]; decide)]
      ·go_wp2_with (go_at_call 33; (with_reducible refine (qW.calls k _ _ mv _ hmo).mono ?_); rintro e w9 ⟨rfl, hb⟩; have HB9 : Hid (Below w.heap.size w _) := HB8.out.trans (hb.mono HB8.out.size); have BK9 : Hid (_ = _) := qV BK8.out hb; clear y0 y1 y2 y3 y4 y5 y6; obtain ⟨y0, y1, y2, y3, y4, y5, y6⟩ := cz7 BK9.out)
       go_ret
       exact ⟨mv, rfl, kL hbig hlt HZ.out (by unfold dF; rw [if_neg (by rw [HN1.out]; decide), if_neg (by rw [HN2.out]; decide), if_neg (by rw [HN3.out]; decide), if_neg HO4.out, if_pos (fun h => hm0 (HMV.out.symm.trans h)), HMV.out]) hm0, HB9.out⟩
   ·have hltz : ¬ (i : Int) < (l0.length : Int) := by omega
    have hil : i = l0.length := by omega
    go_wp2
    go_ret
    exact ⟨0, rfl, by unfold ChkD; rw [if_neg hbig]; exact .inl ⟨rfl, fun j hj => HZ.out j (by omega)⟩, HBL.out⟩
theorem kV (k : Nat) (A0 : Option Addr) (c0 : Nat) (l0 : List SDe) (A1 : Option Addr) (c1 : Nat) (l1 : List SPa) (day : Int) (cv pc : Nat → Int) (dsc : Nat → Int → Int) (od : List Nat) (w : World) (hr0 : Kd.C k53 w A0 l0.length l0) (hc0 : l0.length ≤ c0) (hn : l0.length ≤ 200)
  (hr1 : Kd.C k72 w A1 l1.length l1) (hc1 : l1.length ≤ c1) (hn1 : l1.length ≤ 500)
  (hnf : ∀ i : Nat, i < l1.length → (rdA l1 i).f2.length ≤ 100) (hod : ordA (fun j => (iniD l0 cv j).last) l0.length = od)
  (hcv : ∀ i : Nat, i < l0.length → xD.f k (rdD l0 i).f2.f0 (rdD l0 i).f2.f1 = some (cv i)) (hsz : ∀ i : Nat, i < l0.length → (rdD l0 i).f0.size ≤ maxLen)
  (hpc : ∀ i : Nat, i < l1.length → xD.f k (rdA l1 i).f1.f0 (rdA l1 i).f1.f1 = some (pc i)) (hsz1 : ∀ i : Nat, i < l1.length → ∀ j : Nat, j < (rdA l1 i).f2.length → (rdOf ByteArray.empty (rdA l1 i).f2 j).size ≤ maxLen)
  (hds : ∀ j : Nat, j < l0.length → ∀ o p t d : Int, jX.f k (rdD l0 j).f0 (rdD l0 j).f1 (rdD l0 j).f2.f0 (rdD l0 j).f2.f1 (rdD l0 j).f3 (rdD l0 j).f4 (rdD l0 j).f5 o p t d = some (dsc j o, (rdD l0 j).f0, (rdD l0 j).f1, (rdD l0 j).f2.f0, (rdD l0 j).f2.f1, (rdD l0 j).f3, (rdD l0 j).f4, (rdD l0 j).f5, o, p, t, d)) :
  Calls Tryz.prog 23 #[.slice A0 l0.length c0, .slice A1 l1.length c1, .int .i64 day] w fun e w' => ∃ (m : Nat) (v vo vr : Value) (gs : List Nat) (D : DataW Unit), m ≤ l1.length ∧ (∀ i : Nat, i < m → (rdA l1 i).f0 ≤ day) ∧ (m = l1.length ∨ day < (rdA l1 m).f0) ∧ e = .returned (.tuple #[v, vr]) ∧
   yR w w' l0 v vo vr gs D od (runP l0 cv dsc od l1 pc m).1 (runP l0 cv dsc od l1 pc m).2 := by
 have hon : od.length = l0.length := hod ▸ zWk (fun j => (iniD l0 cv j).last) l0.length
 have hob : ∀ j ∈ od, j < l0.length := hod ▸ qWb (fun j => (iniD l0 cv j).last) l0.length
 have HOD : Hid (ordA (fun j => (iniD l0 cv j).last) l0.length = od) := hod
 clear hod
 have hmm := @run_makeMap Tryz.prog
 obtain ⟨i0, hi0, hzz⟩ := Option.map_eq_some_iff.1 info60
 simp only [Prod.mk.injEq] at hzz
 obtain ⟨hz0, hz1, hz2⟩ := hzz
 have HR0 := zQ.mk hr0
 have HR1 := zQ.mk hr1
 have HPC : Aside _ := hpc
 have HS1 : Aside _ := hsz1
 have HNF : Aside _ := hnf
 have HDS : Aside _ := hds
 clear hr1 hpc hsz1 hds hnf
 go_enter Tryz.func23, Tryz.ntmps23
 go_wp2
 go_loopg [26, 8] l0.length (fun g1 vi va wr => ∃ (i : Nat) (gs : List Nat) (D : DataW Unit), vi = .int .i64 i ∧ i ≤ l0.length ∧ l0.length - i ≤ g1 ∧ zEd w wr w.heap.size (fun i => (rdD l0 i).f0) (iniD l0 cv) i va gs D)
 case atStart =>
  exact ⟨0, [], .map [], rfl, Nat.zero_le _, Nat.le_refl _, ⟨rfl, by simp, List.nodup_nil, by simp, ⟨rfl, .inl ⟨rfl, rfl⟩⟩, World.ownsMap_made w _ _ _, fun s => rfl, (Below.refl _ _).alloc (Nat.le_refl _) _, fun _ => rfl⟩⟩
 case round =>
  obtain ⟨i, gs, D, rfl, hi, hgk, L⟩ := hrel
  by_cases hlt : i < l0.length
  ·have hltz : (i : Int) < (l0.length : Int) := by omega
   have h0i : (0 : Int) ≤ (i : Int) := by omega
   obtain ⟨ad, e0, hx0, hx1, hx2, hx3, hx4, hx5, hx6⟩ := kK HR0.out (i : Int) h0i hltz
   cases e0
   simp only [Int.toNat_natCast] at hx0 hx1 hx2 hx3 hx4 hx5 hx6
   have HB : zQ (Below w.heap.size w wr) := ⟨L.bel⟩
   replace hx0 := hz HB hx0
   replace hx1 := hz HB hx1
   replace hx2 := hz HB hx2
   replace hx3 := hz HB hx3
   replace hx4 := hz HB hx4
   replace hx5 := hz HB hx5
   replace hx6 := hz HB hx6
   go_upto_region 6 with fail
   have G1 := xB wr (.cells #[.string (rdD l0 i).f0, .int .i64 (rdD l0 i).f1, .int .i64 (rdD l0 i).f2.f0, .int .i64 (rdD l0 i).f2.f1, .int .i64 (rdD l0 i).f3, .int .i64 (rdD l0 i).f4, .int .i64 (rdD l0 i).f5] 53 (0, 0))
   have K1 := World.grownBy_alloc wr (.cells #[.string (rdD l0 i).f0, .int .i64 (rdD l0 i).f1, .int .i64 (rdD l0 i).f2.f0, .int .i64 (rdD l0 i).f2.f1, .int .i64 (rdD l0 i).f3, .int .i64 (rdD l0 i).f4, .int .i64 (rdD l0 i).f5] 53 (0, 0)) none
   obtain ⟨g1, hg1⟩ : ∃ g1, g1 = wr.heap.size := ⟨_, rfl⟩
   rw [← hg1] at G1 ⊢
   have HG1 : Hid (g1 = wr.heap.size) := hg1
   generalize wr.alloc _ = w1 at G1 K1 ⊢
   clear hg1 hx0 hx1 hx2 hx3 hx4 hx5 hx6
   obtain ⟨y0, y1, y2, y3, y4, y5, y6⟩ := cz7 G1
   have hcc := fun w3 => xD.calls k _ _ (cv i) w3 (hcv i hlt)
   go_region_held3 (fun w' => w'.cell? ⟨g1, 0, none⟩ = some (.string (rdD l0 i).f0) ∧ w'.cell? ⟨g1, 1, none⟩ = some (.int .i64 (rdD l0 i).f1) ∧ w'.cell? ⟨g1, 2, none⟩ = some (.int .i64 (rdD l0 i).f2.f0) ∧ w'.cell? ⟨g1, 3, none⟩ = some (.int .i64 (rdD l0 i).f2.f1) ∧ w'.cell? ⟨g1, 4, none⟩ = some (.int .i64 (rdD l0 i).f3) ∧ w'.cell? ⟨g1, 5, none⟩ = some (.int .i64 (rdD l0 i).f4) ∧ w'.cell? ⟨g1, 6, none⟩ = some (.int .i64 (rdD l0 i).f5) ∧ Below w1.heap.size w1 w') (first | exact keep7 (by assumption) ((Below.refl _ _).alloc (Nat.le_refl _) _) | exact keep7 ⟨y0, y1, y2, y3, y4, y5, y6, Below.refl _ _⟩ ((Below.refl _ _).drew) | exact keep7 (by assumption) (by assumption)) (first | (go_at_call 43; (with_reducible refine (hcc _).mono ?_); rintro e w2 ⟨rfl, hB2⟩))
   have hB2' : Below w1.heap.size w1 w2 := (Below.refl w1.heap.size w1).drew.trans hB2
   obtain ⟨g2, hg2⟩ : ∃ g2, g2 = w2.heap.size := ⟨_, rfl⟩
   have G2 : (w2.alloc (.cells #[.string (rdD l0 i).f0, .int .i64 (rdD l0 i).f1, .int .i64 (rdD l0 i).f2.f0, .int .i64 (rdD l0 i).f2.f1, .int .i64 (rdD l0 i).f3, .int .i64 (rdD l0 i).f4, .int .i64 (rdD l0 i).f5, .int .i64 (cv i), .int .i64 0, .int .i64 0, .int .i64 0] 62 (0, 0))).heap[g2]? = some (iniD l0 cv i).obj := hg2 ▸ xB w2 (.cells #[.string (rdD l0 i).f0, .int .i64 (rdD l0 i).f1, .int .i64 (rdD l0 i).f2.f0, .int .i64 (rdD l0 i).f2.f1, .int .i64 (rdD l0 i).f3, .int .i64 (rdD l0 i).f4, .int .i64 (rdD l0 i).f5, .int .i64 (cv i), .int .i64 0, .int .i64 0, .int .i64 0] 62 (0, 0))
   have hs1 := K1.size
   have hs2 := hB2'.size
   have B2 : Below wr.heap.size wr w2 := (Below.grown (Below.refl _ _) K1 (Nat.le_refl _) (by simp)).trans (hB2'.mono hs1)
   have B3 := B2.alloc B2.size (.cells #[.string (rdD l0 i).f0, .int .i64 (rdD l0 i).f1, .int .i64 (rdD l0 i).f2.f0, .int .i64 (rdD l0 i).f2.f1, .int .i64 (rdD l0 i).f3, .int .i64 (rdD l0 i).f4, .int .i64 (rdD l0 i).f5, .int .i64 (cv i), .int .i64 0, .int .i64 0, .int .i64 0] 62 (0, 0))
   have G1' := zZ (qV G1 hB2') (.cells #[.string (rdD l0 i).f0, .int .i64 (rdD l0 i).f1, .int .i64 (rdD l0 i).f2.f0, .int .i64 (rdD l0 i).f2.f1, .int .i64 (rdD l0 i).f3, .int .i64 (rdD l0 i).f4, .int .i64 (rdD l0 i).f5, .int .i64 (cv i), .int .i64 0, .int .i64 0, .int .i64 0] 62 (0, 0))
   have hge : wr.heap.size ≤ g2 := by rw [hg2]; exact B2.size
   have HGE : Hid (wr.heap.size ≤ g2) := hge
   rw [← hg2]
   generalize w2.alloc _ = w3 at G2 B3 G1' ⊢
   clear hg2 hge hB2' hB2 hs1 hs2 y0 y1 y2 y3 y4 y5 y6 G1 K1 B2
   have L3 := L.keep B3
   have L4 := L3.keep ((Below.refl w3.heap.size w3).alloc (Nat.le_refl _) (.cells #[encP g2] 60 (0, 0)))
   have hrow := L4.row
   have hbase := L4.bel.size
   go_upto_region 8 with (at_builtin; refine wpList_append_own _ rfl _ _ 57 rfl w.heap.size 60 i0 (.pointer none) 1 8 Tryz.underlying57 hi0 hz0 hz1 hz2 rfl (by decide) u8 i _ rfl hrow ⟨w3.heap.size, 0, none⟩ 1 1 [encP g2] rfl rfl (news1 w3 _ _) (by simp [encP, Value.oneCell']) (by unfold maxLen; omega) (by omega) hbase ?_; intro v' w4 hown4 hg4 hnil4)
   have G4 := (hg4.block g1 (xq (zZ G1' _)) (kW hrow (zZ G1' _) (by intro cur e; injection e with _ e2 _; exact absurd e2 (by decide)))).trans (zZ G1' _)
   have y0 := (cz7 G4).1
   obtain ⟨es, ck, hmb, hmr⟩ := L4.map
   have hmap4 : w4.ownsMap Tryz.prog 9 zZk w.heap.size i D := ⟨es, ck, (hg4.block _ (xq hmb) (kW hrow hmb (by intro cur e; cases e))).trans hmb, hmr⟩
   have hkey := WideMaps.keyOf_string_mk (P := Tryz.prog) Tryz.underlying9 (hsz i hlt)
   have HF : Hid (∀ g ∈ gs, g ≠ g2) := fun g hg e => by
    obtain ⟨j, hj⟩ := List.getElem?_of_mem hg
    have := xq (L.obj j g hj)
    have h2 := HGE.out
    omega
   have HBG : Hid (w.heap.size < g2) := by
    have h1 := xq hmb
    have h2 := HGE.out
    have h3 := L.bel.size
    obtain ⟨es', ck', hmb', _⟩ := L.map
    have h4 := xq hmb'
    exact (show w.heap.size < g2 by omega)
   have HH4 : Aside (w4.ownsRow w.heap.size 60 1 v' (i + 1) (gs.map encP ++ [encP g2])) := hown4
   have HHG : Aside ((w3.alloc (.cells #[encP g2] 60 (0, 0))).grownBy w4 u8.ownBlock) := hg4
   clear hmb hown4 hg4 hnil4 hrow
   go_wp2_with (at_mapUpdate; refine wpList_mapUpdate_own _ rfl _ _ _ 81 rfl 9 60 law9 Tryz.underlying81 zZk w.heap.size i D rfl hmap4 (by unfold maxLen; omega) _ _ _ rfl rfl hkey (.lit (.int .i64 (g2 : Int))) [] rfl ?_; intro w5 hmap5 hg5)
   go_roundg (l0.length - (i + 1))
   case measure => omega
   case rel =>
    refine ⟨i + 1, gs ++ [g2], D.put (.string (rdD l0 i).f0.data.toList) (.lit (.int .i64 (g2 : Int))), by first | rfl | (congr 1; omega), by omega, Nat.le_refl _, ?_⟩
    exact L4.push (zZ G2 _) HF.out HBG.out HH4 HHG hmap5 hg5
  ·obtain rfl : i = l0.length := by omega
   have hltz : ¬ (l0.length : Int) < (l0.length : Int) := by omega
   have HB : zQ (Below w.heap.size w wr) := ⟨L.bel⟩
   have hcl := qYq wr w.heap.size l0.length u8 (gs.map encP) L.row (fun u hu => by obtain ⟨g, _, rfl⟩ := List.mem_map.1 hu; rfl) (by omega) L.nil
   go_wp2_with (first | (go_at_call 44; (with_reducible refine hcl.mono ?_); rintro e' w1 ⟨vo, rfl, ho1, ho2, ho3⟩) | (go_at_call 45; (refine (sort_any wr.heap.size l0.length gs L.len (by omega) (iniD l0 cv) _ _ ho1 (L.keep ho2).obj ho3).mono ?_); rw [HOD.out]; rintro e' w2 ⟨rfl, hs1, hs2⟩))
   have L2 := yR.start L ho2 hs1 hs2 hon hob
   obtain ⟨ao, co, rfl⟩ := uE L2.ord
   clear ho1 ho2 ho3 hs1 hs2 L HB hr0 HR0 hcv hsz hi hlt hltz hi0 hz0 hz1 hz2 hmm hgk
   go_loopg [14, 51] l1.length (fun g1 vr vi wr => ∃ (i : Nat), vi = .int .i64 i ∧ i ≤ l1.length ∧ l1.length - i ≤ g1 ∧ Hid (∀ j : Nat, j < i → (rdA l1 j).f0 ≤ day) ∧ Hid (yR w wr l0 u8 (.slice ao l0.length co) vr gs D od (runP l0 cv dsc od l1 pc i).1 (runP l0 cv dsc od l1 pc i).2))
   case atStart => exact ⟨0, rfl, Nat.zero_le _, Nat.le_refl _, (show ∀ j : Nat, j < 0 → _ from fun j h => absurd h (Nat.not_lt_zero j)), L2⟩
   case round =>
    obtain ⟨i, rfl, hi, hg1, HD, HL⟩ := hrel
    clear L2
    by_cases hlt : i < l1.length
    ·have hltz : (i : Int) < (l1.length : Int) := by omega
     have h0i : (0 : Int) ≤ (i : Int) := by omega
     obtain ⟨ad, A3, c3, e0, hx0, hx1, hx2, hx3, hl3, hi3⟩ := zKl HR1.out (i : Int) h0i hltz
     cases e0
     simp only [Int.toNat_natCast] at hx0 hx1 hx2 hx3
     obtain ⟨p, hp⟩ : ∃ p, p = zX l1 i := ⟨_, rfl⟩
     rw [← hp] at hx0 hx1 hx2 hx3 hl3 hi3
     have HP : Hid (p = rdA l1 i) := hp
     have hcp : xD.f k p.f1.f0 p.f1.f1 = some (pc i) := hp ▸ HPC.out i hlt
     have HSP : Aside (∀ j : Nat, j < p.f2.length → (rdOf ByteArray.empty p.f2 j).size ≤ maxLen) := hp ▸ HS1.out i hlt
     have hpl : p.f2.length ≤ 100 := hp ▸ HNF.out i hlt
     clear hp
     have HB : zQ (Below w.heap.size w wr) := ⟨HL.out.bel⟩
     replace hx0 := hz HB hx0
     replace hx1 := hz HB hx1
     replace hx2 := hz HB hx2
     replace hx3 := hz HB hx3
     have HNM := zQ.mk hi3
     clear hi3
     go_upto_region 16 with fail
     have G1 := xB wr (.cells #[.int .i64 p.f0, .int .i64 p.f1.f0, .int .i64 p.f1.f1, .slice A3 p.f2.length c3] 72 (0, 0))
     have L3 : zQy w (wr.alloc (.cells #[.int .i64 p.f0, .int .i64 p.f1.f0, .int .i64 p.f1.f1, .slice A3 p.f2.length c3] 72 (0, 0))) l0 u8 (.slice ao l0.length co) u14 gs D od (runP l0 cv dsc od l1 pc i).1 (runP l0 cv dsc od l1 pc i).2 wr.heap.size #[.int .i64 p.f0, .int .i64 p.f1.f0, .int .i64 p.f1.f1, .slice A3 p.f2.length c3] := ⟨HL.out.keep ((Below.refl _ _).alloc (Nat.le_refl _) _), G1⟩
     generalize wr.heap.size = gb at G1 L3 ⊢
     generalize wr.alloc _ = w3 at G1 L3 ⊢
     clear hx0 hx1 hx2 hx3 HB
     obtain ⟨y0, y1, y2, y3⟩ := cb4 G1
     have HL3 : Aside _ := L3
     clear G1 L3
     by_cases hday : day < p.f0
     ·go_wp2
      go_ret2
      exact ⟨i, u8, .slice ao l0.length co, u14, gs, D, hi, HD.out, Or.inr (by rw [← HP.out]; exact hday), rfl, HL3.out.two⟩
     ·go_wp2_with (first | (go_at_call 43; (with_reducible refine (xD.calls k _ _ (pc i) _ hcp).mono ?_); rintro e w4 ⟨rfl, hB4⟩; have HL4 : Aside _ := HL3.out.keep hB4; obtain ⟨y0, y1, y2, y3⟩ := cb4 HL4.out.box; clear hB4))
      go_loopg [17, 65] p.f2.length (fun g2 vl vi2 wr2 => ∃ (kk : Nat) (s : Int × (Nat → V4)), vl = .int .i64 s.1 ∧ vi2 = .int .i64 kk ∧ kk ≤ p.f2.length ∧ p.f2.length - kk ≤ g2 ∧ Hid (runN l0 dsc p.f0 (fun k => rdOf ByteArray.empty p.f2 k) (pc i, (runP l0 cv dsc od l1 pc i).1) kk = s) ∧ Hid (zQy w wr2 l0 u8 (.slice ao l0.length co) u14 gs D od s.2 (runP l0 cv dsc od l1 pc i).2 gb #[.int .i64 p.f0, .int .i64 p.f1.f0, .int .i64 p.f1.f1, .slice A3 p.f2.length c3]))
      case atStart => exact ⟨0, (pc i, (runP l0 cv dsc od l1 pc i).1), rfl, rfl, Nat.zero_le _, Nat.le_refl _, rfl, HL4.out⟩
      case round =>
       obtain ⟨kk, s, rfl, rfl, hkk, hg2, HS, HL5⟩ := hrel
       clear y0 y1 y2 y3 HL3 HL4 HL
       obtain ⟨y0, y1, y2, y3⟩ := cb4 HL5.out.box
       by_cases hlt2 : kk < p.f2.length
       ·have hltz2 : (kk : Int) < (p.f2.length : Int) := by omega
        obtain ⟨ad2, e2, hn0⟩ := Kd.yD HNM.out (kk : Int) (by omega) hltz2
        cases e2
        rw [Int.toNat_natCast] at hn0
        replace hn0 := hz ⟨HL5.out.two.bel⟩ hn0
        obtain ⟨nn, hnn⟩ : ∃ nn, nn = rdOf ByteArray.empty p.f2 kk := ⟨_, rfl⟩
        rw [← hnn] at hn0
        have HNN : Hid (nn = rdOf ByteArray.empty p.f2 kk) := hnn
        have hlk := HL5.out.two.look nn (by rw [hnn]; exact HSP.out kk hlt2)
        clear hnn
        cases hx : vH (nmD l0) nn l0.length with
        | none =>
         rw [hx] at hlk
         have HX : Hid (vH (nmD l0) nn l0.length = none) := hx
         clear hx
         replace hlk : Sem.run Tryz.prog (Instr.lookup 81 (.map (some w.heap.size)) (.string nn) false) _ = .ok (.pointer none) _ := hlk
         have hq := ptr_eql0
         go_wp2
         go_roundg (p.f2.length - (kk + 1))
         case measure => omega
         case rel =>
          refine ⟨kk + 1, s, rfl, by first | rfl | (congr 1; omega), by omega, Nat.le_refl _, (show _ = _ from ?_), HL5⟩
          show zCe l0 dsc p.f0 (vH (nmD l0) (rdOf ByteArray.empty p.f2 kk) l0.length) (runN l0 dsc p.f0 (fun k => rdOf ByteArray.empty p.f2 k) (pc i, (runP l0 cv dsc od l1 pc i).1) kk) = s
          rw [HS.out, ← HNN.out, HX.out]
          rfl
        | some j =>
         rw [hx] at hlk
         have HX : Hid (vH (nmD l0) nn l0.length = some j) := hx
         have hjl := kv hx
         clear hx
         have hgj : gs[j]? = some (gs.getD j 0) := by
          rw [List.getD_eq_getElem?_getD, List.getElem?_eq_getElem (by rw [HL5.out.two.len]; exact hjl)]
          rfl
         replace hlk : Sem.run Tryz.prog (Instr.lookup 81 (.map (some w.heap.size)) (.string nn) false) _ = .ok (.pointer (some ⟨gs.getD j 0, 0, none⟩)) _ := hlk
         generalize gs.getD j 0 = g at hlk hgj
         have HGJ : Hid (gs[j]? = some g) := hgj
         have hth3 := there3 HL5.out hgj p.f0
         have hq := ptr_eql g
         clear hgj
         by_cases hth : xy (rdD l0 j) (s.2 j) p.f0 = true
         ·rw [hth] at hth3
          have HTH : Hid (xy (rdD l0 j) (s.2 j) p.f0 = true) := hth
          clear hth
          go_wp2_with (first | (go_at_call 37; (with_reducible refine hth3.mono ?_); rintro e w5 ⟨rfl, L6⟩; have HL6 : Aside _ := L6; clear y0 y1 y2 y3 L6; obtain ⟨y0, y1, y2, y3⟩ := cb4 HL6.out.box) | (go_at_call 48; (with_reducible refine (named3 k HL6.out HGJ.out s.1 p.f0 (dsc j (s.2 j).owes) (HDS.out j hjl _ _ _ _)).mono ?_); rintro e w6 ⟨rfl, L7⟩; have HL7 : Aside _ := L7; clear L7))
          go_roundg (p.f2.length - (kk + 1))
          case measure => omega
          case rel =>
           refine ⟨kk + 1, ((yJ (rdD l0 j) (dsc j (s.2 j).owes) (s.2 j) s.1 p.f0).1, upd s.2 j (yJ (rdD l0 j) (dsc j (s.2 j).owes) (s.2 j) s.1 p.f0).2), rfl, by first | rfl | (congr 1; omega), by omega, Nat.le_refl _, (show _ = _ from ?_), HL7.out⟩
           show zCe l0 dsc p.f0 (vH (nmD l0) (rdOf ByteArray.empty p.f2 kk) l0.length) (runN l0 dsc p.f0 (fun k => rdOf ByteArray.empty p.f2 k) (pc i, (runP l0 cv dsc od l1 pc i).1) kk) = _
           rw [HS.out, ← HNN.out, HX.out]
           unfold zCe
           exact if_pos HTH.out
         ·rw [Bool.eq_false_iff.mpr hth] at hth3
          have HTH : Hid (¬ xy (rdD l0 j) (s.2 j) p.f0 = true) := hth
          clear hth
          go_wp2_with (go_at_call 37; (with_reducible refine hth3.mono ?_); rintro e w5 ⟨rfl, L6⟩; have HL6 : Aside _ := L6; clear L6)
          go_roundg (p.f2.length - (kk + 1))
          case measure => omega
          case rel =>
           refine ⟨kk + 1, s, rfl, by first | rfl | (congr 1; omega), by omega, Nat.le_refl _, (show _ = _ from ?_), HL6.out⟩
           show zCe l0 dsc p.f0 (vH (nmD l0) (rdOf ByteArray.empty p.f2 kk) l0.length) (runN l0 dsc p.f0 (fun k => rdOf ByteArray.empty p.f2 k) (pc i, (runP l0 cv dsc od l1 pc i).1) kk) = s
           rw [HS.out, ← HNN.out, HX.out]
           exact if_neg HTH.out
       ·have hkl : kk = p.f2.length := by omega
        have hltz2 : ¬ (kk : Int) < (p.f2.length : Int) := by omega
        go_wp2_with fail
        go_loopg [17, 88] l0.length (fun g3 vl vi3 wr3 => ∃ (k3 : Nat) (s2 : Int × (Nat → V4)), vl = .int .i64 s2.1 ∧ vi3 = .int .i64 k3 ∧ k3 ≤ l0.length ∧ l0.length - k3 ≤ g3 ∧ Hid (runO l0 p.f0 od s k3 = s2) ∧ Hid (zQy w wr3 l0 u8 (.slice ao l0.length co) u14 gs D od s2.2 (runP l0 cv dsc od l1 pc i).2 gb #[.int .i64 p.f0, .int .i64 p.f1.f0, .int .i64 p.f1.f1, .slice A3 p.f2.length c3]))
        case atStart => exact ⟨0, s, rfl, rfl, Nat.zero_le _, Nat.le_refl _, rfl, HL5.out⟩
        case round =>
         obtain ⟨k3, s2, rfl, rfl, hk3, hg3, HS2, HL6⟩ := hrel
         clear y0 y1 y2 y3 HL5
         obtain ⟨y0, y1, y2, y3⟩ := cb4 HL6.out.box
         by_cases hlt3 : k3 < l0.length
         ·have hltz3 : (k3 : Int) < (l0.length : Int) := by omega
          obtain ⟨ado, eo, hco, hjl, hgj⟩ := HL6.out.two.ordAt k3 hlt3
          cases eo
          generalize gs.getD (od.getD k3 0) 0 = g at hco hgj
          obtain ⟨j, hj⟩ : ∃ j, j = od.getD k3 0 := ⟨_, rfl⟩
          rw [← hj] at hgj hjl
          have HJ : Hid (j = od.getD k3 0) := hj
          have HGJ : Hid (gs[j]? = some g) := hgj
          have hth3 := there3 HL6.out hgj p.f0
          clear hgj hj
          by_cases hpos : 0 < s2.1
          ·have hposd : decide (0 < s2.1) = true := decide_eq_true hpos
           have HPOS : Hid (s2.1 > 0) := hpos
           by_cases hth : xy (rdD l0 j) (s2.2 j) p.f0 = true
           ·rw [hth] at hth3
            have HTH : Hid (xy (rdD l0 j) (s2.2 j) p.f0 = true) := hth
            clear hth
            go_wp2_with (first | (go_at_call 37; (with_reducible refine hth3.mono ?_); rintro e w5 ⟨rfl, L6⟩; have HL7 : Aside _ := L6; clear y0 y1 y2 y3 L6; obtain ⟨y0, y1, y2, y3⟩ := cb4 HL7.out.box) | (go_at_call 49; (with_reducible refine (pay3 HL7.out HGJ.out s2.1 p.f0).mono ?_); rintro e w6 ⟨rfl, L7⟩; have HL8 : Aside _ := L7; clear L7))
            go_roundg (l0.length - (k3 + 1))
            case measure => omega
            case rel =>
             refine ⟨k3 + 1, ((payV (s2.2 j) s2.1 p.f0).1, upd s2.2 j (payV (s2.2 j) s2.1 p.f0).2), rfl, by first | rfl | (congr 1; omega), by omega, Nat.le_refl _, (show _ = _ from ?_), HL8.out⟩
             show zXe l0 p.f0 (od.getD k3 0) (runO l0 p.f0 od s k3) = _
             rw [HS2.out, ← HJ.out]
             exact if_pos ⟨HPOS.out, HTH.out⟩
           ·rw [Bool.eq_false_iff.mpr hth] at hth3
            have HTH : Hid (¬ xy (rdD l0 j) (s2.2 j) p.f0 = true) := hth
            clear hth
            go_wp2_with (go_at_call 37; (with_reducible refine hth3.mono ?_); rintro e w5 ⟨rfl, L6⟩; have HL7 : Aside _ := L6; clear L6)
            go_roundg (l0.length - (k3 + 1))
            case measure => omega
            case rel =>
             refine ⟨k3 + 1, s2, rfl, by first | rfl | (congr 1; omega), by omega, Nat.le_refl _, (show _ = _ from ?_), HL7.out⟩
             show zXe l0 p.f0 (od.getD k3 0) (runO l0 p.f0 od s k3) = _
             rw [HS2.out, ← HJ.out]
             exact if_neg fun h => HTH.out h.2
          ·have hposd : decide (0 < s2.1) = false := decide_eq_false hpos
           have HPOS : Hid (¬ s2.1 > 0) := hpos
           go_wp2
           go_roundg (l0.length - (k3 + 1))
           case measure => omega
           case rel =>
            refine ⟨k3 + 1, s2, rfl, by first | rfl | (congr 1; omega), by omega, Nat.le_refl _, (show _ = _ from ?_), HL6⟩
            show zXe l0 p.f0 (od.getD k3 0) (runO l0 p.f0 od s k3) = _
            rw [HS2.out, ← HJ.out]
            exact if_neg fun h => absurd h.1 (by have h2 := HPOS.out; omega)
         ·have hkl3 : k3 = l0.length := by omega
          have hltz3 : ¬ (k3 : Int) < (l0.length : Int) := by omega
          have hrl := zZj l0 cv dsc od l1 pc i
          go_wp2_with (at_builtin; refine uQ w.heap.size rfl _ _ 39 3 (.int .i64 0) 1 8 rfl Tryz.underlying39 qXx rfl (by decide) (by decide) u14 (runP l0 cv dsc od l1 pc i).2.length ((runP l0 cv dsc od l1 pc i).2.map encI) [.int .i64 s2.1] rfl rfl rfl (by simp [Value.oneCell']) HL6.out.two.rst HL6.out.two.bel HL6.out.two.bel.size (by omega) ?_; intro v9 w9 hown9 hB9 hg9 hor9)
          have HO9 : Aside _ := hown9
          have HB9 : Aside _ := hB9
          have HG9 : Aside _ := hg9
          go_roundg (l1.length - (i + 1))
          case measure => omega
          case rel =>
           have hone : oneP l0 dsc od (rdA l1 i) (pc i) (runP l0 cv dsc od l1 pc i).1 = s2 := by
            unfold oneP
            rw [← HP.out, ← hkl, HS.out, hon, ← hkl3, HS2.out]
           refine ⟨i + 1, by first | rfl | (congr 1; omega), by omega, Nat.le_refl _, ?_, ?_⟩
           ·show ∀ j : Nat, j < i + 1 → (rdA l1 j).f0 ≤ day
            intro j hj
            rcases Nat.lt_succ_iff_lt_or_eq.1 hj with h | rfl
            ·exact HD.out j h
            ·rw [← HP.out]
             omega
           ·show yR w _ l0 u8 _ v9 gs D od (oneP l0 dsc od (rdA l1 i) (pc i) (runP l0 cv dsc od l1 pc i).1).2 ((runP l0 cv dsc od l1 pc i).2 ++ [(oneP l0 dsc od (rdA l1 i) (pc i) (runP l0 cv dsc od l1 pc i).1).1])
            rw [hone]
            exact HL6.out.two.push HO9.out HG9.out HB9.out
    ·obtain rfl : i = l1.length := by omega
     have hltz : ¬ (l1.length : Int) < (l1.length : Int) := by omega
     go_wp2
     go_ret2
     first | exact ⟨l1.length, hi, HD.out, Or.inl rfl, u8, .slice ao l0.length co, u14, rfl, gs, D, HL.out⟩ | exact ⟨l1.length, u8, .slice ao l0.length co, u14, gs, D, hi, HD.out, Or.inl rfl, rfl, HL.out⟩
theorem kC (k : Nat) (A0 : Option Addr) (c0 : Nat) (l0 : List SDe) (A1 : Option Addr) (c1 : Nat) (l1 : List SPa) (nb : Nat → Bool) (mf : Nat → Int) (e1 : Int) (w : World) (hr0 : Kd.C k53 w A0 l0.length l0) (hc0 : l0.length ≤ c0)
  (hr1 : Kd.C k72 w A1 l1.length l1) (hc1 : l1.length ≤ c1)
  (hnb : ∀ i : Nat, i < l0.length → jV.f (rdD l0 i).f0 = some (nb i)) (hmf : ∀ i : Nat, i < l0.length → qW.f k (rdD l0 i).f2.f0 (rdD l0 i).f2.f1 = some (mf i)) (hcp : zD.f k l1 = some e1) :
  Calls Tryz.prog 22 #[.slice A0 l0.length c0, .slice A1 l1.length c1] w fun e w' => ∃ r : Int, e = .returned (.int .i64 r) ∧ (∃ rd, ChkD l0 nb mf rd ∧ r = if rd = 0 then e1 else rd) ∧ Below w.heap.size w w' := by
 have hcd := qQd k A0 c0 l0 nb mf w hr0 hc0 hnb hmf
 have HR1 := zQ.mk hr1
 clear hr0 hr1 hnb hmf
 go_enter Tryz.func22, Tryz.ntmps22
 go_upto_region 2 with (go_at_call 8; (with_reducible refine hcd.mono ?_); rintro e w5 ⟨rd, rfl, hd, hb⟩)
 have HD : Hid (ChkD l0 nb mf rd) := hd
 have HB : Hid (Below w.heap.size w w5) := hb
 clear hd hb
 by_cases h0 : rd = 0
 ·subst h0
  go_wp2_with (go_at_call 10; (with_reducible refine (zD.calls k A1 c1 l1 e1 w5 (Kd.jC HR1.out HB.out) hc1 hcp).mono ?_); rintro e w6 ⟨rfl, hb⟩)
  go_ret
  exact ⟨e1, rfl, ⟨0, HD.out, (if_pos rfl).symm⟩, HB.out.trans (hb.mono HB.out.size)⟩
 ·go_wp2
  go_ret
  exact ⟨rd, rfl, ⟨rd, HD.out, (if_neg h0).symm⟩, HB.out⟩
theorem zZc {α : Type} {d : Kd α} {e base e2 n size : Nat} {w w4 : World} {v v2 : Value} {xs : List α} {ys : List Value} (h : d.R e w base (fun _ => True) v xs) (hg : w.grownBy w4 v2.ownBlock) (h2 : w.ownsRow base e2 size v2 n ys) (hne : ∀ q, q ∈ e :: d.E → q ≠ e2) : d.R e w4 base (fun _ => True) v xs := by
 cases hv : v2.ownBlock with
 | none => exact Kd.zYn h fun k _ hk => hg.block k hk (by rw [hv]; simp)
 | some g =>
  obtain ⟨cur, hb, _⟩ := vG h2 hv.symm
  exact Kd.vw (Kd.zYn (Kd.zB h hb hne) fun k hk hlt => hg.block k hlt (by rw [hv]; intro e3; exact hk.2 (Option.some.inj e3))) fun _ _ => trivial
theorem yR.far {w wr w4 : World} {l0 : List SDe} {v vo vr v2 : Value} {gs : List Nat} {D : DataW Unit} {od : List Nat} {S : Nat → V4} {rest : List Int} {b2 e2 size n : Nat} {ys : List Value} (L : yR w wr l0 v vo vr gs D od S rest)
  (h2 : wr.ownsRow b2 e2 size v2 n ys) (hg : wr.grownBy w4 v2.ownBlock) (hb : Below w.heap.size w w4) (n1 : e2 ≠ 60) (n2 : e2 ≠ 3) (n3 : e2 ≠ 62) : yR w w4 l0 v vo vr gs D od S rest := by
 have hkeep : ∀ (i : Nat) (o : Obj), wr.heap[i]? = some o → (∀ cur, o ≠ .cells cur e2 (0, 0)) → w4.heap[i]? = some o := fun i o h hne => (hg.block i (xq h) (kW h2 h hne)).trans h
 have hrow : ∀ {v : Value} {n : Nat} {xs : List Value} {e : TypeId}, wr.ownsRow w.heap.size e 1 v n xs → e2 ≠ e → w4.ownsRow w.heap.size e 1 v n xs := fun h he => yE h fun i hi => by
  obtain ⟨cur, hc, _⟩ := vG h hi
  rw [hkeep i _ hc (by intro cur e; injection e with _ e2 _; exact he e2.symm), hc]
 obtain ⟨es, ck, hmb, hmr⟩ := L.map
 exact ⟨L.len, L.odl, L.odb, fun j g h => hkeep _ _ (L.obj j g h) (by intro cur e; injection e with _ e2 _; exact n3 e2.symm), L.nd, L.big, hrow L.row n1, hrow L.ord n1, hrow L.rst n2, ⟨es, ck, hkeep _ _ hmb (by intro cur e; cases e), hmr⟩, L.key, hb⟩
theorem zWz {α : Type} {d : Kd α} {e base : Nat} {w : World} {ok : Nat → Prop} {v : Value} {xs : List α} (h : d.R e w base ok v xs) : ∃ inner, w.ownsRow base e d.sz v xs.length inner := ⟨_, h.2.choose_spec.1⟩
def outP (l0 : List SDe) (tm : Int → S33) (S : Nat → V4) (j : Nat) : S35 := ⟨(rdD l0 j).f0, tm (S j).paid, tm (S j).taken, (S j).done⟩
theorem qJl {ops : Array Oper} {o : Oper} {a : Act} {Q : Exit → Act → World → Prop} {Kc : Act → World → Prop} (l0 : List SDe) (tm : Int → S33) (S : Nat → V4) (i : Nat) (hi : i < 200) {w5 W : World} (v : Value)
  (HO : Kd.R k35 35 W w5.heap.size (fun _ => True) v ((List.range i).map (outP l0 tm S))) (HB : Below w5.heap.size w5 W)
  (hw : Region.wanted o (yielded ops a.tmps) = true) (s x : Operand) (ho : o.op = .call { callee := .builtin .append, args := #[s, x], argTypes := #[24, 24] }) (hs : a.eval s = v) (hx : a.eval x = .slice (some ⟨W.heap.size, 0, none⟩) 1 1)
  (h : ∀ v1 w1, Kd.R k35 35 w1 w5.heap.size (fun _ => True) v1 ((List.range (i + 1)).map (outP l0 tm S)) → Below w5.heap.size w5 w1 → W.grownBy w1 v.ownBlock → Kc (a.put o.dst v1) w1) :
  if Region.wanted o (yielded ops a.tmps) = true then Oper.wp Tryz.prog o a (W.alloc (.cells #[.string (rdD l0 i).f0, .int .i64 (tm (S i).paid).f0, .int .i64 (tm (S i).paid).f1, .int .i64 (tm (S i).taken).f0, .int .i64 (tm (S i).taken).f1, .int .i64 (S i).done] 35)) Kc Q
  else Kc (a.put o.dst undef) (W.alloc (.cells #[.string (rdD l0 i).f0, .int .i64 (tm (S i).paid).f0, .int .i64 (tm (S i).paid).f1, .int .i64 (tm (S i).taken).f0, .int .i64 (tm (S i).taken).f1, .int .i64 (S i).done] 35)) := by
 have hlen : ((List.range i).map (outP l0 tm S)).length = i := by rw [List.length_map, List.length_range]
 obtain ⟨i0, hinf, hzz⟩ := Option.map_eq_some_iff.1 info35
 simp only [Prod.mk.injEq] at hzz
 obtain ⟨hz0, hz1, hz2⟩ := hzz
 obtain ⟨h0, inner, hown, hr⟩ := HO
 rw [if_pos hw]
 obtain ⟨v1, w1, hrun, hown1, hg, _, hat⟩ := run_append_own_at (P := Tryz.prog) (W.alloc (.cells #[.string (rdD l0 i).f0, .int .i64 (tm (S i).paid).f0, .int .i64 (tm (S i).paid).f1, .int .i64 (tm (S i).taken).f0, .int .i64 (tm (S i).taken).f1, .int .i64 (S i).done] 35)) w5.heap.size 24 o.type 35 i0 _ 6 56 Tryz.underlying24 hinf hz0 hz1 hz2 rfl (by decide) v ((List.range i).map (outP l0 tm S)).length inner (hown.alloc _) ⟨W.heap.size, 0, none⟩ 1 1 [.string (rdD l0 i).f0, .int .i64 (tm (S i).paid).f0, .int .i64 (tm (S i).paid).f1, .int .i64 (tm (S i).taken).f0, .int .i64 (tm (S i).taken).f1, .int .i64 (S i).done] rfl
  (by simpa using World.news_of_block (cs := #[.string (rdD l0 i).f0, .int .i64 (tm (S i).paid).f0, .int .i64 (tm (S i).paid).f1, .int .i64 (tm (S i).taken).f0, .int .i64 (tm (S i).taken).f1, .int .i64 (S i).done]) (t := 35) (fr := (0, 0)) (heap_alloc_new W _)) (by simp [Value.oneCell']) (by rw [hlen]; unfold maxLen; omega) (by rw [hlen]; omega) (by have := HB.size; simp; omega)
 have hG : W.grownBy w1 v.ownBlock := World.grownBy.trans (World.grownBy_alloc W _ _) hg
 unfold Oper.wp execOp
 simp only [ho, resolve, invoke, builtin, Sem.run_bind, Sem.run_pure, Result.andThen_ok, List.map_toArray, List.map_cons, List.map_nil, hs, hx, hrun]
 refine h v1 w1 ?_ (HB.grown hG HB.size fun b e => (vG hown e.symm).choose_spec.2) hG
 rw [List.range_succ, List.map_append]
 refine Kd.zKv (p := outP l0 tm S i) (cs := [.string (rdD l0 i).f0, .int .i64 (tm (S i).paid).f0, .int .i64 (tm (S i).paid).f1, .int .i64 (tm (S i).taken).f0, .int .i64 (tm (S i).taken).f1, .int .i64 (S i).done]) h0 hr (k35_mkM _ _ (fun _ => False) (outP l0 tm S i)) (fun _ h => h.elim) (fun _ _ => trivial) hown1 hG ?_
 rcases hat with hat | hat
 ·exact .inl hat
 ·exact .inr ⟨_, hat, by simp⟩
theorem zJj {l0 : List SDe} {nb : Nat → Bool} {mf : Nat → Int} {r : Int} (hn : l0.length ≤ 200) (hok : ∀ i, i < l0.length → dF l0 nb mf i = 0) (h : ChkD l0 nb mf r) : r = 0 := by
 unfold ChkD at h
 rw [if_neg (by omega)] at h
 rcases h with h | ⟨i, hi, _, h1, h2⟩
 ·exact h.1
 ·exact absurd ((hok i hi).symm.trans h1).symm h2
theorem zJl {W W' : World} {g : Nat} {v0 v1 v2 v3 : Value} {a b c d : Nat} (h : W.cell? ⟨g, a, none⟩ = some v0 ∧ W.cell? ⟨g, b, none⟩ = some v1 ∧ W.cell? ⟨g, c, none⟩ = some v2 ∧ W.cell? ⟨g, d, none⟩ = some v3) (hb : Below W.heap.size W W') : W'.cell? ⟨g, a, none⟩ = some v0 ∧ W'.cell? ⟨g, b, none⟩ = some v1 ∧ W'.cell? ⟨g, c, none⟩ = some v2 ∧ W'.cell? ⟨g, d, none⟩ = some v3 := by
 obtain ⟨h0, h1, h2, h3⟩ := h
 exact ⟨(hb.cell (World.block_lt_of_cell? W _ h0)).trans h0, (hb.cell (World.block_lt_of_cell? W _ h1)).trans h1, (hb.cell (World.block_lt_of_cell? W _ h2)).trans h2, (hb.cell (World.block_lt_of_cell? W _ h3)).trans h3⟩
theorem qXk {W W' : World} {row : Option Nat} {g : Nat} {v0 v1 v2 v3 : Value} {a b c d : Nat} (hb : W.grownBy W' row) (h : W.cell? ⟨g, a, none⟩ = some v0 ∧ W.cell? ⟨g, b, none⟩ = some v1 ∧ W.cell? ⟨g, c, none⟩ = some v2 ∧ W.cell? ⟨g, d, none⟩ = some v3) (hne : some g ≠ row) : W'.cell? ⟨g, a, none⟩ = some v0 ∧ W'.cell? ⟨g, b, none⟩ = some v1 ∧ W'.cell? ⟨g, c, none⟩ = some v2 ∧ W'.cell? ⟨g, d, none⟩ = some v3 := by
 obtain ⟨h0, h1, h2, h3⟩ := h
 exact ⟨(hb.cell_far _ (World.block_lt_of_cell? W _ h0) hne).trans h0, (hb.cell_far _ (World.block_lt_of_cell? W _ h1) hne).trans h1, (hb.cell_far _ (World.block_lt_of_cell? W _ h2) hne).trans h2, (hb.cell_far _ (World.block_lt_of_cell? W _ h3) hne).trans h3⟩
theorem pay_all (k : Nat) (A0 : Option Addr) (c0 : Nat) (l0 : List SDe) (A1 : Option Addr) (c1 : Nat) (l1 : List SPa) (nb : Nat → Bool) (mf : Nat → Int) (cv pc : Nat → Int) (dsc : Nat → Int → Int) (od : List Nat) (tm : Int → S33) (w : World) (hr0 : Kd.C k53 w A0 l0.length l0) (hc0 : l0.length ≤ c0) (hn : l0.length ≤ 200)
  (hr1 : Kd.C k72 w A1 l1.length l1) (hc1 : l1.length ≤ c1) (hn1 : l1.length ≤ 500)
  (hnb : ∀ i : Nat, i < l0.length → jV.f (rdD l0 i).f0 = some (nb i)) (hmf : ∀ i : Nat, i < l0.length → qW.f k (rdD l0 i).f2.f0 (rdD l0 i).f2.f1 = some (mf i)) (hcp : zD.f k l1 = some 0)
  (hok : ∀ i, i < l0.length → dF l0 nb mf i = 0) (hday : ∀ i : Nat, i < l1.length → (rdA l1 i).f0 ≤ 3652059)
  (hnf : ∀ i : Nat, i < l1.length → (rdA l1 i).f2.length ≤ 100) (hod : ordA (fun j => (iniD l0 cv j).last) l0.length = od)
  (hcv : ∀ i : Nat, i < l0.length → xD.f k (rdD l0 i).f2.f0 (rdD l0 i).f2.f1 = some (cv i)) (hsz : ∀ i : Nat, i < l0.length → (rdD l0 i).f0.size ≤ maxLen)
  (hpc : ∀ i : Nat, i < l1.length → xD.f k (rdA l1 i).f1.f0 (rdA l1 i).f1.f1 = some (pc i)) (hsz1 : ∀ i : Nat, i < l1.length → ∀ j : Nat, j < (rdA l1 i).f2.length → (rdOf ByteArray.empty (rdA l1 i).f2 j).size ≤ maxLen)
  (hds : ∀ j : Nat, j < l0.length → ∀ o p t d : Int, jX.f k (rdD l0 j).f0 (rdD l0 j).f1 (rdD l0 j).f2.f0 (rdD l0 j).f2.f1 (rdD l0 j).f3 (rdD l0 j).f4 (rdD l0 j).f5 o p t d = some (dsc j o, (rdD l0 j).f0, (rdD l0 j).f1, (rdD l0 j).f2.f0, (rdD l0 j).f2.f1, (rdD l0 j).f3, (rdD l0 j).f4, (rdD l0 j).f5, o, p, t, d))
  (htmA : ∀ j : Nat, j < l0.length → jk.f k ((runP l0 cv dsc od l1 pc l1.length).1 j).paid = some ((tm ((runP l0 cv dsc od l1 pc l1.length).1 j).paid).f0, (tm ((runP l0 cv dsc od l1 pc l1.length).1 j).paid).f1) ∧ jk.f k ((runP l0 cv dsc od l1 pc l1.length).1 j).taken = some ((tm ((runP l0 cv dsc od l1 pc l1.length).1 j).taken).f0, (tm ((runP l0 cv dsc od l1 pc l1.length).1 j).taken).f1))
  (htmB : ∀ x ∈ (runP l0 cv dsc od l1 pc l1.length).2, jk.f k x = some ((tm x).f0, (tm x).f1)) :
  Calls Tryz.prog 6 #[.slice A0 l0.length c0, .slice A1 l1.length c1] w fun e w' => ∃ v1 v2 : Value, e = .returned (.tuple #[v1, v2, .int .i64 0]) ∧
   Kd.R k35 35 w' w.heap.size (fun _ => True) v1 ((List.range l0.length).map (outP l0 tm (runP l0 cv dsc od l1 pc l1.length).1)) ∧
   Kd.R k33 33 w' w.heap.size (fun _ => True) v2 ((runP l0 cv dsc od l1 pc l1.length).2.map tm) ∧ Below w.heap.size w w' := by
 have hbf := kC k A0 c0 l0 A1 c1 l1 nb mf 0 w hr0 hc0 hr1 hc1 hnb hmf hcp
 have HPY : Aside _ := fun (w5 : World) (hb : Below w.heap.size w w5) => kV k A0 c0 l0 A1 c1 l1 3652059 cv pc dsc od w5 (Kd.jC hr0 hb) hc0 hn (Kd.jC hr1 hb) hc1 hn1 hnf hod hcv hsz hpc hsz1 hds
 have HZ : Aside _ := fun r (h : ChkD l0 nb mf r) => zJj hn hok h
 have HDY : Aside _ := hday
 have hrl := zZj l0 cv dsc od l1 pc l1.length
 clear hr0 hr1 hnb hmf hcp hok hday hnf hod hcv hsz hpc hsz1 hds
 go_enter Tryz.func6, Tryz.ntmps6
 go_upto_region 5 with (first | (go_at_call 22; (with_reducible refine hbf.mono ?_); rintro e w5 ⟨r, rfl, ⟨rd, hrd, hr⟩, hb⟩; obtain rfl := HZ.out rd hrd; rw [if_pos rfl] at hr; obtain rfl := hr; have HB : Hid (Below w.heap.size w _) := hb; clear hb hrd) | (go_at_call 23; have hh := HPY.out _ HB.out; (with_reducible refine hh.mono ?_); clear hh; rintro e w6 ⟨m, v, vo, vr, gs, D, hm, hml, hmr, rfl, hL⟩))
 obtain rfl : m = l1.length := by
  rcases hmr with h | h
  ·exact h
  ·by_cases hlt : m < l1.length
   ·have := HDY.out m hlt
    omega
   ·omega
 clear hm hml hmr hbf
 obtain ⟨R, hR⟩ : ∃ R, R = runP l0 cv dsc od l1 pc l1.length := ⟨_, rfl⟩
 rw [← hR] at hrl htmA htmB hL
 have HRR : Hid (runP l0 cv dsc od l1 pc l1.length = R) := hR.symm
 have HRL : Hid (R.2.length = l1.length) := hrl
 have hrb : R.2.length ≤ 500 := by omega
 clear hR hrl
 obtain ⟨av, cvv, rfl⟩ := uE hL.row
 obtain ⟨ar, cr, rfl⟩ := uE hL.rst
 have HL : Hid (yR w5 w6 l0 (.slice av l0.length cvv) vo (.slice ar R.2.length cr) gs D od R.1 R.2) := hL
 have HTA : Aside _ := htmA
 have HTB : Aside _ := htmB
 clear hL htmA htmB
 go_wp2_with fail
 go_loopg [10, 30] l0.length (fun g1 v1 vi wr => ∃ i : Nat, vi = .int .i64 i ∧ i ≤ l0.length ∧ l0.length - i ≤ g1 ∧ Hid (yR w5 wr l0 (.slice av l0.length cvv) vo (.slice ar R.2.length cr) gs D od R.1 R.2) ∧ Hid (Kd.R k35 35 wr w5.heap.size (fun _ => True) v1 ((List.range i).map (outP l0 tm R.1))))
 case atStart => exact ⟨0, rfl, Nat.zero_le _, Nat.le_refl _, HL, Kd.kN _ _ _ _ _⟩
 case round =>
  obtain ⟨i, rfl, hi, hg1, HL1, HO1⟩ := hrel
  clear HL
  by_cases hlt : i < l0.length
  ·have hltz : (i : Int) < (l0.length : Int) := by omega
   obtain ⟨ad, ea, hca⟩ := zZm HL1.out.row i hlt
   cases ea
   obtain ⟨g, hg⟩ : ∃ g, gs[i]? = some g := ⟨gs[i]'(by rw [HL1.out.len]; exact hlt), List.getElem?_eq_getElem _⟩
   rw [List.getElem?_map, hg] at hca
   replace hca : wr.cell? (ad.add i) = some (.pointer (some ⟨g, 0, none⟩)) := hca
   have hob := HL1.out.obj i g hg
   have z0 : wr.cell? ⟨g, 0, none⟩ = some (.string (rdD l0 i).f0) := (zx hob 0).trans rfl
   have z8 : wr.cell? ⟨g, 8, none⟩ = some (.int .i64 (R.1 i).paid) := (zx hob 8).trans rfl
   have z9 : wr.cell? ⟨g, 9, none⟩ = some (.int .i64 (R.1 i).taken) := (zx hob 9).trans rfl
   have z10 : wr.cell? ⟨g, 10, none⟩ = some (.int .i64 (R.1 i).done) := (zx hob 10).trans rfl
   obtain ⟨hta, htb⟩ := HTA.out i hlt
   have hlen : ((List.range i).map (outP l0 tm R.1)).length = i := by rw [List.length_map, List.length_range]
   have HL9 : Aside ((((List.range i).map (outP l0 tm R.1)).length + 1) * 56 ≤ 140737488355328) := (show _ ≤ _ by rw [hlen]; omega)
   obtain ⟨inner, hown⟩ := zWz HO1.out
   have hne : some g ≠ u10.ownBlock := kW hown hob (by intro cur e; injection e with _ e2 _; exact absurd e2 (by decide))
   have HNE : Hid (some g ≠ u10.ownBlock) := hne
   have HOW : Aside _ := hown
   have HQ : Hid (Below wr.heap.size wr wr.drew) := (Below.refl _ _).drew
   clear hown hne hob hg
   go_upto_region 9 with fail
   go_region_held_law (fun w' => w'.cell? ⟨g, 0, none⟩ = some (.string (rdD l0 i).f0) ∧ w'.cell? ⟨g, 8, none⟩ = some (.int .i64 (R.1 i).paid) ∧ w'.cell? ⟨g, 9, none⟩ = some (.int .i64 (R.1 i).taken) ∧ w'.cell? ⟨g, 10, none⟩ = some (.int .i64 (R.1 i).done))
    (first | exact zJl ⟨z0, z8, z9, z10⟩ ((Below.refl _ _).drew) | exact zJl (by assumption) ((Below.refl _ _).alloc (Nat.le_refl _) _) | exact zJl (by assumption) (by assumption) | exact qXk hg9 (zJl ⟨z0, z8, z9, z10⟩ HQ.out) HNE.out)
    (first
     | (go_at_call 24; (with_reducible refine (jk.calls k (R.1 i).paid _ _ _ hta).mono ?_); rintro e w9 ⟨rfl, hb⟩; have HQ2 : Hid (Below wr.heap.size wr _) := HQ.out.trans (hb.mono HQ.out.size); clear HQ; have HQ := HQ2; clear HQ2)
     | (go_at_call 24; (with_reducible refine (jk.calls k (R.1 i).taken _ _ _ htb).mono ?_); rintro e w9 ⟨rfl, hb⟩; have HQ2 : Hid (Below wr.heap.size wr _) := HQ.out.trans (hb.mono HQ.out.size); clear HQ; have HQ := HQ2; clear HQ2)
     | (refine qJl l0 tm R.1 i (by omega) u10 (Kd.jq HO1.out HQ.out) (HL1.out.bel.trans (HQ.out.mono HL1.out.bel.size)) rfl (.tmp 34) (.tmp 55) rfl rfl rfl ?_; intro v9 w9 hR9 hB9 hg9))
   simp only [List.getElem_toArray, List.getElem_cons_succ, List.getElem_cons_zero]
   try simp only [sq]
   go_wp2
   go_roundg (l0.length - (i + 1))
   case measure => omega
   case rel =>
    refine ⟨i + 1, by first | rfl | (congr 1; omega), by omega, Nat.le_refl _, ?_, hR9⟩
    exact (HL1.out.keep HQ.out).far (yE HOW.out fun j hj => HQ.out.block j (zQn HOW.out hj)) hg9 hB9 (by decide) (by decide) (by decide)
  ·obtain rfl : i = l0.length := by omega
   have hltz : ¬ (l0.length : Int) < (l0.length : Int) := by omega
   go_wp2_with fail
   go_loopg [13, 60] R.2.length (fun g2 v2 vi2 wr2 => ∃ k2 : Nat, vi2 = .int .i64 k2 ∧ k2 ≤ R.2.length ∧ R.2.length - k2 ≤ g2 ∧ Hid (yR w5 wr2 l0 (.slice av l0.length cvv) vo (.slice ar R.2.length cr) gs D od R.1 R.2) ∧ Hid (Kd.R k35 35 wr2 w5.heap.size (fun _ => True) u10 ((List.range l0.length).map (outP l0 tm R.1))) ∧ Hid (Kd.R k33 33 wr2 w5.heap.size (fun _ => True) v2 ((R.2.take k2).map tm)))
   case atStart => exact ⟨0, rfl, Nat.zero_le _, Nat.le_refl _, HL1, HO1, (show Kd.R _ _ _ _ _ _ [] from Kd.kN _ _ _ _ _)⟩
   case round =>
    obtain ⟨k2, rfl, hk2, hg2, HL2, HO2, HW2⟩ := hrel
    clear HL1 HO1
    by_cases hlt2 : k2 < R.2.length
    ·have hltz2 : (k2 : Int) < (R.2.length : Int) := by omega
     obtain ⟨ad2, ea2, hca2⟩ := zZm HL2.out.rst k2 hlt2
     cases ea2
     obtain ⟨x, hx⟩ : ∃ x, R.2[k2]? = some x := ⟨R.2[k2], List.getElem?_eq_getElem hlt2⟩
     rw [List.getElem?_map, hx] at hca2
     replace hca2 : wr.cell? (ad2.add k2) = some (.int .i64 x) := hca2
     have htx := HTB.out x (List.mem_of_getElem? hx)
     have hlen2 : ((R.2.take k2).map tm).length = k2 := by rw [List.length_map, List.length_take]; omega
     have hsm : (((R.2.take k2).map tm).length + 1) * 16 ≤ 140737488355328 := by rw [hlen2]; omega
     have HSM : Aside _ := hsm
     have HX : Hid (R.2[k2]? = some x) := hx
     clear hx hlen2 hsm
     go_wp2_with (first
      | (go_at_call 24; (with_reducible refine (jk.calls k x _ _ _ htx).mono ?_); rintro e w9 ⟨rfl, hb⟩)
      | (at_builtin; refine Kd.vJ k33 (w0 := w5) w5.heap.size rfl (.tmp 64) (.tmp 67) 25 33 _ 16 rfl Tryz.underlying25 qXy rfl (by decide) (by decide) u13 ((R.2.take k2).map tm) (tm x) _ (fun _ => True) (fun _ => False) rfl rfl (zJm _ _ _ (tm x)) (fun _ h => h.elim) (fun _ _ => trivial) (Kd.jq HW2.out hb) (HL2.out.bel.trans (hb.mono HL2.out.bel.size)) (Nat.le_trans HL2.out.bel.size hb.size) HSM.out ?_; intro v10 w10 hR10 hB10 hg10 hor10))
     go_roundg (R.2.length - (k2 + 1))
     case measure => omega
     case rel =>
      refine ⟨k2 + 1, by first | rfl | (congr 1; omega), by omega, Nat.le_refl _, ?_, ?_, ?_⟩
      ·obtain ⟨inn, how⟩ := zWz (Kd.jq HW2.out hb)
       exact (HL2.out.keep hb).far how hg10 hB10 (by decide) (by decide) (by decide)
      ·obtain ⟨inn, how⟩ := zWz (Kd.jq HW2.out hb)
       exact zZc (Kd.jq HO2.out hb) hg10 how (by decide)
      ·show Kd.R _ _ _ _ _ _ ((R.2.take (k2 + 1)).map tm)
       rw [List.take_add_one, HX.out, List.map_append]
       exact hR10
    ·have hkl : k2 = R.2.length := by omega
     have hltz2 : ¬ (k2 : Int) < (R.2.length : Int) := by omega
     go_wp2
     go_ret3
     refine ⟨u10, u13, rfl, ?_, ?_, HB.out.trans (HL2.out.bel.mono HB.out.size)⟩
     ·rw [HRR.out]
      exact Kd.vC HO2.out HB.out.size
     ·rw [HRR.out]
      have h2 := Kd.vC HW2.out HB.out.size
      rw [hkl, List.take_length] at h2
      exact h2
end Go.Proofs.YtaihfoihlbileaaGreatDoor.R7
namespace Go.Proofs.YtaihfoihlbileaaGreatDoor.R7
open Go Go.Proofs Go.RowKit Go.Maps Go.Proofs.YtaihfoihlbileaaGreatDoorW.PrintWords Go.Proofs.YtaihfoihlbileaaGreatDoorW.PrintLast Go.Proofs.YtaihfoihlbileaaGreatDoorW.PrintMore
attribute [local go_sem] vZ vY vT yZ xH xG vz vX
theorem zVe (g : Nat) (d dn day : Int) (w : World) (z1 : w.cell? ⟨g, 1, none⟩ = some (.int .i64 d)) (z10 : w.cell? ⟨g, 10, none⟩ = some (.int .i64 dn)) :
  Calls Tryz.prog 37 #[.pointer (some ⟨g, 0, none⟩), .int .i64 day] w fun e w' => e = .returned (.bool (if d ≤ day then dn == 0 else false)) ∧ Below w.heap.size w w' := by
 by_cases h : d ≤ day
 ·rw [if_pos h]
  by_cases h2 : dn = 0
  ·have hb : (dn == 0) = true := by simpa using h2
   rw [hb]
   go_enter Tryz.func37, Tryz.ntmps37
   go_wp2
   go_ret
   exact ⟨rfl, by first | exact Below.refl _ _ | exact qD (Below.refl _ _)⟩
  ·have hb : (dn == 0) = false := by simpa using h2
   rw [hb]
   go_enter Tryz.func37, Tryz.ntmps37
   go_wp2
   go_ret
   exact ⟨rfl, by first | exact Below.refl _ _ | exact qD (Below.refl _ _)⟩
 ·rw [if_neg h]
  go_enter Tryz.func37, Tryz.ntmps37
  go_wp2
  go_ret
  exact ⟨rfl, by first | exact Below.refl _ _ | exact qD (Below.refl _ _)⟩
theorem qKj (g : Nat) (d n r : Int) (w : World) (z1 : w.cell? ⟨g, 1, none⟩ = some (.int .i64 d)) (z4 : w.cell? ⟨g, 4, none⟩ = some (.int .i64 n)) (hr : wrap64 (d + n) = r) :
  Calls Tryz.prog 47 #[.pointer (some ⟨g, 0, none⟩)] w fun e w' => e = .returned (.int .i64 r) ∧ Below w.heap.size w w' := by
 have wr : IntKind.i64.wrap (d + n) = r := (jw _).trans hr
 clear hr
 go_enter Tryz.func47, Tryz.ntmps47
 go_wp2
 go_big_region
 all_goals go_wp2
 go_ret
 exact ⟨rfl, qD (Below.refl _ _)⟩
theorem zYf (g : Nat) (d n day r : Int) (w : World) (z1 : w.cell? ⟨g, 1, none⟩ = some (.int .i64 d)) (z4 : w.cell? ⟨g, 4, none⟩ = some (.int .i64 n)) (hr : mx 0 (wrap64 (day - wrap64 (d + n))) = r) :
  Calls Tryz.prog 38 #[.pointer (some ⟨g, 0, none⟩), .int .i64 day] w fun e w' => e = .returned (.int .i64 r) ∧ Below w.heap.size w w' := by
 obtain ⟨l, hl⟩ : ∃ l, wrap64 (d + n) = l := ⟨_, rfl⟩
 have h1 := qKj g d n l w z1 z4 hl
 rw [hl] at hr
 obtain ⟨t, ht⟩ : ∃ t, wrap64 (day - l) = t := ⟨_, rfl⟩
 have wt : IntKind.i64.wrap (day - l) = t := (jw _).trans ht
 rw [ht] at hr
 clear z1 z4 hl ht
 unfold mx at hr
 by_cases hlt : (0 : Int) < t
 ·rw [if_pos hlt] at hr
  subst hr
  go_enter Tryz.func38, Tryz.ntmps38
  go_wp2_with (go_at_call 47; (with_reducible refine h1.mono ?_); rintro e w1 ⟨rfl, hb⟩)
  go_ret
  exact ⟨rfl, hb⟩
 ·rw [if_neg hlt] at hr
  subst hr
  go_enter Tryz.func38, Tryz.ntmps38
  go_wp2_with (go_at_call 47; (with_reducible refine h1.mono ?_); rintro e w1 ⟨rfl, hb⟩)
  go_ret
  exact ⟨rfl, hb⟩
abbrev SOw := S45
def zQg (d : SDe) (day : Int) : Int := mx 0 (wrap64 (day - wrap64 (d.f1 + d.f3)))
def outO (l0 : List SDe) (tm : Int → S33) (S : Nat → V4) (day : Int) (j : Nat) : SOw := ⟨(rdD l0 j).f0, tm (S j).owes, zQg (rdD l0 j) day⟩
def opl (l0 : List SDe) (tm : Int → S33) (S : Nat → V4) (day : Int) (n : Nat) : List SOw := ((List.range n).filter fun j : Nat => xy (rdD l0 j) (S j) day).map (outO l0 tm S day)
theorem zVv (l0 : List SDe) (tm : Int → S33) (S : Nat → V4) (day : Int) (n : Nat) : opl l0 tm S day (n + 1) = opl l0 tm S day n ++ if xy (rdD l0 n) (S n) day = true then [outO l0 tm S day n] else [] := by
 unfold opl
 rw [List.range_succ, List.filter_append, List.map_append]
 congr 1
 by_cases h : xy (rdD l0 n) (S n) day = true
 ·rw [if_pos h]
  simp [h]
 ·rw [if_neg h]
  simp [h]
theorem zYe (l0 : List SDe) (tm : Int → S33) (S : Nat → V4) (day : Int) (n : Nat) : (opl l0 tm S day n).length ≤ n := by
 unfold opl
 rw [List.length_map]
 refine Nat.le_trans (List.length_filter_le _ _) ?_
 rw [List.length_range]
 exact Nat.le_refl _
theorem zDm {ops : Array Oper} {o : Oper} {a : Act} {Q : Exit → Act → World → Prop} {Kc : Act → World → Prop} (xs : List SOw) (p : SOw) (hxs : xs.length ≤ 200) {w5 W : World} (v : Value)
  (HO : Kd.R k45 45 W w5.heap.size (fun _ => True) v xs) (HB : Below w5.heap.size w5 W)
  (hw : Region.wanted o (yielded ops a.tmps) = true) (s x : Operand) (ho : o.op = .call { callee := .builtin .append, args := #[s, x], argTypes := #[40, 40] }) (hs : a.eval s = v) (hx : a.eval x = .slice (some ⟨W.heap.size, 0, none⟩) 1 1)
  (h : ∀ v1 w1, Kd.R k45 45 w1 w5.heap.size (fun _ => True) v1 (xs ++ [p]) → Below w5.heap.size w5 w1 → W.grownBy w1 v.ownBlock → Kc (a.put o.dst v1) w1) :
  if Region.wanted o (yielded ops a.tmps) = true then Oper.wp Tryz.prog o a (W.alloc (.cells #[.string p.f0, .int .i64 p.f1.f0, .int .i64 p.f1.f1, .int .i64 p.f2] 45)) Kc Q
  else Kc (a.put o.dst undef) (W.alloc (.cells #[.string p.f0, .int .i64 p.f1.f0, .int .i64 p.f1.f1, .int .i64 p.f2] 45)) := by
 obtain ⟨i0, hinf, hzz⟩ := Option.map_eq_some_iff.1 info45
 simp only [Prod.mk.injEq] at hzz
 obtain ⟨hz0, hz1, hz2⟩ := hzz
 obtain ⟨h0, inner, hown, hr⟩ := HO
 rw [if_pos hw]
 obtain ⟨v1, w1, hrun, hown1, hg, _, hat⟩ := run_append_own_at (P := Tryz.prog) (W.alloc (.cells #[.string p.f0, .int .i64 p.f1.f0, .int .i64 p.f1.f1, .int .i64 p.f2] 45)) w5.heap.size 40 o.type 45 i0 _ 4 40 Tryz.underlying40 hinf hz0 hz1 hz2 rfl (by decide) v xs.length inner (hown.alloc _) ⟨W.heap.size, 0, none⟩ 1 1 [.string p.f0, .int .i64 p.f1.f0, .int .i64 p.f1.f1, .int .i64 p.f2] rfl
  (by simpa using World.news_of_block (cs := #[.string p.f0, .int .i64 p.f1.f0, .int .i64 p.f1.f1, .int .i64 p.f2]) (t := 45) (fr := (0, 0)) (heap_alloc_new W _)) (by simp [Value.oneCell']) (by unfold maxLen; omega) (by omega) (by have := HB.size; simp; omega)
 have hG : W.grownBy w1 v.ownBlock := World.grownBy.trans (World.grownBy_alloc W _ _) hg
 unfold Oper.wp execOp
 simp only [ho, resolve, invoke, builtin, Sem.run_bind, Sem.run_pure, Result.andThen_ok, List.map_toArray, List.map_cons, List.map_nil, hs, hx, hrun]
 refine h v1 w1 ?_ (HB.grown hG HB.size fun b e => (vG hown e.symm).choose_spec.2) hG
 refine Kd.zKv (p := p) (cs := [.string p.f0, .int .i64 p.f1.f0, .int .i64 p.f1.f1, .int .i64 p.f2]) h0 hr (k45_mkM _ _ (fun _ => False) p) (fun _ h => h.elim) (fun _ _ => trivial) hown1 hG ?_
 rcases hat with hat | hat
 ·exact .inl hat
 ·exact .inr ⟨_, hat, by simp⟩
theorem late_s {g : Nat} {v0 v7 : Value} {d n day r : Int} {W : World} (h : W.cell? ⟨g, 0, none⟩ = some v0 ∧ W.cell? ⟨g, 1, none⟩ = some (.int .i64 d) ∧ W.cell? ⟨g, 4, none⟩ = some (.int .i64 n) ∧ W.cell? ⟨g, 7, none⟩ = some v7) (hr : mx 0 (wrap64 (day - wrap64 (d + n))) = r) :
  Calls Tryz.prog 38 #[.pointer (some ⟨g, 0, none⟩), .int .i64 day] W fun e w' => e = .returned (.int .i64 r) ∧ Below W.heap.size W w' := zYf g d n day r W h.2.1 h.2.2.1 hr
structure UpTo (l1 : List SPa) (day : Int) (m : Nat) : Prop where
 le : m ≤ l1.length
 all : ∀ i : Nat, i < m → (rdA l1 i).f0 ≤ day
 out : m = l1.length ∨ day < (rdA l1 m).f0
theorem UpTo.uniq {l1 : List SPa} {day : Int} {m m' : Nat} (h : UpTo l1 day m) (h' : UpTo l1 day m') : m = m' := by
 rcases Nat.lt_trichotomy m m' with hlt | h1 | hlt
 ·rcases h.out with e | e
  ·have := h'.le
   omega
  ·have := h'.all m hlt
   omega
 ·exact h1
 ·rcases h'.out with e | e
  ·have := h.le
   omega
  ·have := h.all m' hlt
   omega
theorem open_all (k : Nat) (A0 : Option Addr) (c0 : Nat) (l0 : List SDe) (A1 : Option Addr) (c1 : Nat) (l1 : List SPa) (nb : Nat → Bool) (mf : Nat → Int) (cv pc : Nat → Int) (dsc : Nat → Int → Int) (od : List Nat) (tm : Int → S33) (day : Int) (m : Nat) (w : World) (hr0 : Kd.C k53 w A0 l0.length l0) (hc0 : l0.length ≤ c0) (hn : l0.length ≤ 200)
  (hr1 : Kd.C k72 w A1 l1.length l1) (hc1 : l1.length ≤ c1) (hn1 : l1.length ≤ 500)
  (hnb : ∀ i : Nat, i < l0.length → jV.f (rdD l0 i).f0 = some (nb i)) (hmf : ∀ i : Nat, i < l0.length → qW.f k (rdD l0 i).f2.f0 (rdD l0 i).f2.f1 = some (mf i)) (hcp : zD.f k l1 = some 0)
  (hok : ∀ i, i < l0.length → dF l0 nb mf i = 0) (hdb : dayB day = true) (hm : UpTo l1 day m)
  (hnf : ∀ i : Nat, i < l1.length → (rdA l1 i).f2.length ≤ 100) (hod : ordA (fun j => (iniD l0 cv j).last) l0.length = od)
  (hcv : ∀ i : Nat, i < l0.length → xD.f k (rdD l0 i).f2.f0 (rdD l0 i).f2.f1 = some (cv i)) (hsz : ∀ i : Nat, i < l0.length → (rdD l0 i).f0.size ≤ maxLen)
  (hpc : ∀ i : Nat, i < l1.length → xD.f k (rdA l1 i).f1.f0 (rdA l1 i).f1.f1 = some (pc i)) (hsz1 : ∀ i : Nat, i < l1.length → ∀ j : Nat, j < (rdA l1 i).f2.length → (rdOf ByteArray.empty (rdA l1 i).f2 j).size ≤ maxLen)
  (hds : ∀ j : Nat, j < l0.length → ∀ o p t d : Int, jX.f k (rdD l0 j).f0 (rdD l0 j).f1 (rdD l0 j).f2.f0 (rdD l0 j).f2.f1 (rdD l0 j).f3 (rdD l0 j).f4 (rdD l0 j).f5 o p t d = some (dsc j o, (rdD l0 j).f0, (rdD l0 j).f1, (rdD l0 j).f2.f0, (rdD l0 j).f2.f1, (rdD l0 j).f3, (rdD l0 j).f4, (rdD l0 j).f5, o, p, t, d))
  (htm : ∀ j : Nat, j < l0.length → jk.f k ((runP l0 cv dsc od l1 pc m).1 j).owes = some ((tm ((runP l0 cv dsc od l1 pc m).1 j).owes).f0, (tm ((runP l0 cv dsc od l1 pc m).1 j).owes).f1)) :
  Calls Tryz.prog 15 #[.slice A0 l0.length c0, .slice A1 l1.length c1, .int .i64 day] w fun e w' => ∃ v1 : Value, e = .returned (.tuple #[v1, .int .i64 0]) ∧
   Kd.R k45 45 w' w.heap.size (fun _ => True) v1 (opl l0 tm (runP l0 cv dsc od l1 pc m).1 day l0.length) ∧ Below w.heap.size w w' := by
 have hbf := kC k A0 c0 l0 A1 c1 l1 nb mf 0 w hr0 hc0 hr1 hc1 hnb hmf hcp
 have HPY : Aside _ := fun (w5 : World) (hb : Below w.heap.size w w5) => kV k A0 c0 l0 A1 c1 l1 day cv pc dsc od w5 (Kd.jC hr0 hb) hc0 hn (Kd.jC hr1 hb) hc1 hn1 hnf hod hcv hsz hpc hsz1 hds
 have HZ : Aside _ := fun r (h : ChkD l0 nb mf r) => zJj hn hok h
 have HUP : Aside _ := hm
 have hid := uN day
 rw [hdb] at hid
 clear hr0 hr1 hnb hmf hcp hok hdb hm hnf hod hcv hsz hpc hsz1 hds
 go_enter Tryz.func15, Tryz.ntmps15
 go_upto_region 7 with (first | (go_at_call 22; (with_reducible refine hbf.mono ?_); rintro e w5 ⟨r, rfl, ⟨rd, hrd, hr⟩, hb⟩; obtain rfl := HZ.out rd hrd; rw [if_pos rfl] at hr; obtain rfl := hr; have HB : Hid (Below w.heap.size w _) := hb; clear hb hrd) | (go_at_call 32; (with_reducible refine (jM.calls day _ _ hid).mono ?_); rintro e w6 ⟨rfl, hb⟩; have HB2 : Hid (Below w.heap.size w _) := HB.out.trans (hb.below.mono HB.out.size); clear HB hb; have HB := HB2; clear HB2) | (go_at_call 23; have hh := HPY.out _ HB.out; (with_reducible refine hh.mono ?_); clear hh; rintro e w7 ⟨m2, v, vo, vr, gs, D, hm, hml, hmr, rfl, hL⟩))
 obtain rfl : m2 = m := (UpTo.mk hm hml hmr).uniq HUP.out
 clear hm hml hmr hbf hid
 obtain ⟨R, hR⟩ : ∃ R, R = runP l0 cv dsc od l1 pc m2 := ⟨_, rfl⟩
 rw [← hR] at htm hL
 have HRR : Hid (runP l0 cv dsc od l1 pc m2 = R) := hR.symm
 clear hR
 obtain ⟨av, cvv, rfl⟩ := uE hL.row
 obtain ⟨ar, cr, rfl⟩ := uE hL.rst
 have HL : Hid (yR w6 w7 l0 (.slice av l0.length cvv) vo (.slice ar R.2.length cr) gs D od R.1 R.2) := hL
 have HTA : Aside _ := htm
 clear hL htm
 go_wp2_with fail
 go_loopg [11, 32] l0.length (fun g1 v1 vi wr => ∃ i : Nat, vi = .int .i64 i ∧ i ≤ l0.length ∧ l0.length - i ≤ g1 ∧ Hid (yR w6 wr l0 (.slice av l0.length cvv) vo (.slice ar R.2.length cr) gs D od R.1 R.2) ∧ Hid (Kd.R k45 45 wr w6.heap.size (fun _ => True) v1 (opl l0 tm R.1 day i)))
 case atStart => exact ⟨0, rfl, Nat.zero_le _, Nat.le_refl _, HL, (show Kd.R _ _ _ _ _ _ [] from Kd.kN _ _ _ _ _)⟩
 case round =>
  obtain ⟨i, rfl, hi, hg1, HL1, HO1⟩ := hrel
  clear HL
  by_cases hlt : i < l0.length
  ·have hltz : (i : Int) < (l0.length : Int) := by omega
   obtain ⟨ad, ea, hca⟩ := zZm HL1.out.row i hlt
   cases ea
   obtain ⟨g, hg⟩ : ∃ g, gs[i]? = some g := ⟨gs[i]'(by rw [HL1.out.len]; exact hlt), List.getElem?_eq_getElem _⟩
   rw [List.getElem?_map, hg] at hca
   replace hca : wr.cell? (ad.add i) = some (.pointer (some ⟨g, 0, none⟩)) := hca
   have hob := HL1.out.obj i g hg
   have y1 : wr.cell? ⟨g, 1, none⟩ = some (.int .i64 (rdD l0 i).f1) := (zx hob 1).trans rfl
   have y10 : wr.cell? ⟨g, 10, none⟩ = some (.int .i64 (R.1 i).done) := (zx hob 10).trans rfl
   have hth := zVe g (rdD l0 i).f1 (R.1 i).done day wr y1 y10
   have eth : (if (rdD l0 i).f1 ≤ day then (R.1 i).done == 0 else false) = xy (rdD l0 i) (R.1 i) day := rfl
   rw [eth] at hth
   clear y1 y10 eth
   have HG : Hid (gs[i]? = some g) := hg
   clear hg hob
   by_cases hb : xy (rdD l0 i) (R.1 i) day = true
   ·have HTB : Hid (xy (rdD l0 i) (R.1 i) day = true) := hb
    rw [hb] at hth
    clear hb
    go_upto_region 12 with (go_at_call 37; (with_reducible refine hth.mono ?_); rintro e w8 ⟨rfl, hb8⟩)
    have hobj := qV (HL1.out.obj i g HG.out) hb8
    have HL8 : Hid (yR w6 w8 l0 (.slice (some ad) l0.length cvv) vo (.slice ar R.2.length cr) gs D od R.1 R.2) := HL1.out.keep hb8
    have HO8 : Hid (Kd.R k45 45 w8 w6.heap.size (fun _ => True) u11 (opl l0 tm R.1 day i)) := Kd.jq HO1.out hb8
    clear HL1 HO1 hb8 hca hth
    have z0 : w8.cell? ⟨g, 0, none⟩ = some (.string (rdD l0 i).f0) := (zx hobj 0).trans rfl
    have z1 : w8.cell? ⟨g, 1, none⟩ = some (.int .i64 (rdD l0 i).f1) := (zx hobj 1).trans rfl
    have z4 : w8.cell? ⟨g, 4, none⟩ = some (.int .i64 (rdD l0 i).f3) := (zx hobj 4).trans rfl
    have z7 : w8.cell? ⟨g, 7, none⟩ = some (.int .i64 (R.1 i).owes) := (zx hobj 7).trans rfl
    have hto := HTA.out i hlt
    obtain ⟨inner, hown⟩ := zWz HO8.out
    have HNE : Hid (some g ≠ u11.ownBlock) := kW hown hobj (by intro cur e; injection e with _ e2 _; exact absurd e2 (by decide))
    have HOW : Hid (w8.ownsRow _ _ _ _ _ _) := hown
    have HQ : Hid (Below w8.heap.size w8 w8.drew) := (Below.refl _ _).drew
    obtain ⟨lv, hlv⟩ : ∃ lv, mx 0 (wrap64 (day - wrap64 ((rdD l0 i).f1 + (rdD l0 i).f3))) = lv := ⟨_, rfl⟩
    have HP : Hid (outO l0 tm R.1 day i = ⟨(rdD l0 i).f0, tm (R.1 i).owes, lv⟩) := by
     rw [← hlv]
     rfl
    have HLL : Hid ((opl l0 tm R.1 day i).length ≤ 200) := (show _ ≤ _ from Nat.le_trans (zYe ..) (by omega))
    clear hown hobj
    go_region_held_law (fun w' => w'.cell? ⟨g, 0, none⟩ = some (.string (rdD l0 i).f0) ∧ w'.cell? ⟨g, 1, none⟩ = some (.int .i64 (rdD l0 i).f1) ∧ w'.cell? ⟨g, 4, none⟩ = some (.int .i64 (rdD l0 i).f3) ∧ w'.cell? ⟨g, 7, none⟩ = some (.int .i64 (R.1 i).owes))
     (first | exact zJl ⟨z0, z1, z4, z7⟩ ((Below.refl _ _).drew) | exact zJl (by assumption) ((Below.refl _ _).alloc (Nat.le_refl _) _) | exact zJl (by assumption) (by assumption) | exact qXk hg9 (zJl ⟨z0, z1, z4, z7⟩ HQ.out) HNE.out)
     (first
      | (go_at_call 24; (with_reducible refine (jk.calls k (R.1 i).owes _ _ _ hto).mono ?_); rintro e w9 ⟨rfl, hb⟩; have HQ2 : Hid (Below w8.heap.size w8 _) := HQ.out.trans (hb.mono HQ.out.size); clear HQ; have HQ := HQ2; clear HQ2)
      | (go_at_call 38; (with_reducible refine (late_s (zJl ⟨z0, z1, z4, z7⟩ HQ.out) hlv).mono ?_); rintro e w9 ⟨rfl, hb⟩; have HQ2 : Hid (Below w8.heap.size w8 _) := HQ.out.trans (hb.mono HQ.out.size); clear HQ; have HQ := HQ2; clear HQ2)
      | (refine zDm (opl l0 tm R.1 day i) ⟨(rdD l0 i).f0, tm (R.1 i).owes, lv⟩ HLL.out u11 (Kd.jq HO8.out HQ.out) (HL8.out.bel.trans (HQ.out.mono HL8.out.bel.size)) rfl (.tmp 39) (.tmp 54) rfl rfl rfl ?_; intro v9 w9 hR9 hB9 hg9))
    simp only [List.getElem_toArray, List.getElem_cons_succ, List.getElem_cons_zero]
    try simp only [sq]
    go_wp2
    go_roundg (l0.length - (i + 1))
    case measure => omega
    case rel =>
     refine ⟨i + 1, by first | rfl | (congr 1; omega), by omega, Nat.le_refl _, ?_, ?_⟩
     ·exact (HL8.out.keep HQ.out).far (yE HOW.out fun j hj => HQ.out.block j (zQn HOW.out hj)) hg9 hB9 (by decide) (by decide) (by decide)
     ·rw [zVv, if_pos HTB.out, HP.out]
      exact hR9
   ·have hbf : xy (rdD l0 i) (R.1 i) day = false := by simpa using hb
    have HTB : Hid (xy (rdD l0 i) (R.1 i) day = false) := hbf
    rw [hbf] at hth
    clear hb hbf
    go_wp2_with (go_at_call 37; (with_reducible refine hth.mono ?_); rintro e w8 ⟨rfl, hb8⟩)
    go_roundg (l0.length - (i + 1))
    case measure => omega
    case rel =>
     refine ⟨i + 1, by first | rfl | (congr 1; omega), by omega, Nat.le_refl _, HL1.out.keep hb8, ?_⟩
     rw [zVv, if_neg (by rw [HTB.out]; decide), List.append_nil]
     exact Kd.jq HO1.out hb8
  ·obtain rfl : i = l0.length := by omega
   have hltz : ¬ (l0.length : Int) < (l0.length : Int) := by omega
   go_wp2
   go_ret2
   refine ⟨u11, rfl, ?_, HB.out.trans (HL1.out.bel.mono HB.out.size)⟩
   rw [HRR.out]
   exact Kd.vC HO1.out HB.out.size
end Go.Proofs.YtaihfoihlbileaaGreatDoor.R7
namespace Go.Proofs.YtaihfoihlbileaaGreatDoor.R7
open Go Go.Proofs Go.RowKit YtaihfoihlbileaaGreatDoorW.PrintWords
def stF (st : List Int) (i : Nat) : Int := if dayB (rd st i) = false then 1 else if 0 < i ∧ rd st i ≤ rd st ((i - 1 : Nat) : Int) then 8 else 0
def ChkS (st sv : List Int) (me : Int → Int) (r : Int) : Prop := if st.length > 20 then r = 2 else ∃ r1, zBq (stF st) st.length r1 ∧ (if r1 = 0 then zBq (fun i => me (rd sv i)) sv.length r else r = r1)
theorem zCj {st sv : List Int} {me : Int → Int} (h : st.length > 20) : ChkS st sv me 2 := by
 unfold ChkS
 rw [if_pos h]
theorem zVx {st sv : List Int} {me : Int → Int} {i : Nat} {r : Int} (h20 : st.length ≤ 20) (hi : i < st.length) (hz : ∀ j, j < i → stF st j = 0) (h : stF st i = r) (hr : r ≠ 0) : ChkS st sv me r := by
 unfold ChkS
 rw [if_neg (by omega)]
 exact ⟨r, .inr ⟨i, hi, hz, h, hr⟩, by rw [if_neg hr]⟩
theorem qZl {st sv : List Int} {me : Int → Int} {q : Nat} {r : Int} (h20 : st.length ≤ 20) (hz : ∀ j, j < st.length → stF st j = 0) (hq : q < sv.length) (hs : ∀ x ∈ sv.take q, me x = 0) (h : me (rd sv q) = r) (hr : r ≠ 0) : ChkS st sv me r := by
 unfold ChkS
 rw [if_neg (by omega)]
 refine ⟨0, .inl ⟨rfl, hz⟩, ?_⟩
 rw [if_pos rfl]
 refine .inr ⟨q, hq, fun j hj => hs _ ?_, h, hr⟩
 have e : (sv.take q)[j]? = some (rd sv j) := by
  rw [List.getElem?_take, if_pos hj]
  show sv[j]? = some (sv.getD (j : Int).toNat 0)
  rw [Int.toNat_natCast, List.getD_eq_getElem?_getD, List.getElem?_eq_getElem (by omega)]
  rfl
 exact List.mem_of_getElem? e
theorem qYj {st sv : List Int} {me : Int → Int} (h20 : st.length ≤ 20) (hz : ∀ j, j < st.length → stF st j = 0) (hs : ∀ x ∈ sv, me x = 0) : ChkS st sv me 0 := by
 unfold ChkS
 rw [if_neg (by omega)]
 refine ⟨0, .inl ⟨rfl, hz⟩, ?_⟩
 rw [if_pos rfl]
 refine .inl ⟨rfl, fun j hj => hs _ ?_⟩
 have e : sv[j]? = some (rd sv j) := by
  show sv[j]? = some (sv.getD (j : Int).toNat 0)
  rw [Int.toNat_natCast, List.getD_eq_getElem?_getD, List.getElem?_eq_getElem hj]
  rfl
 exact List.mem_of_getElem? e
end Go.Proofs.YtaihfoihlbileaaGreatDoor.R7
