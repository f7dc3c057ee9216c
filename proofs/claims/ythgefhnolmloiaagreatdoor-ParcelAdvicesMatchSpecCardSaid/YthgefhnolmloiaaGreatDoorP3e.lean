/- Quantities: the program and the reference answer alike: plain laws. -/
import Derived.Test.YthgefhnolmloiaaGreatDoorP3d
namespace Go.Proofs.YthgefhnolmloiaaGreatDoor.P3
open Go Go.Proofs Go.RowKit YthgefhnolmloiaaGreatDoorW.PrintWords

def massOK (u p : Int) (zero : Bool) : Bool := decide (0 ≤ u) && decide (0 ≤ p) && decide (p ≤ 3) && decide (u ≤ 1000000000 * 10 ^ p.toNat) && (zero || decide (u ≠ 0))
def decOK (u p : Int) : Bool := decide (-1000000000000000 ≤ u) && decide (u ≤ 1000000000000000) && decide (0 ≤ p) && decide (p ≤ 9)
theorem m_refCheck (u p : Int) : interchangeref1_CheckDecimal.f u p = some (if decOK u p = true then 0 else 1) := by
  unfold interchangeref1_CheckDecimal.f interchangeref1_within.f decOK
  by_cases h1 : -1000000000000000 ≤ u <;> by_cases h2 : u ≤ 1000000000000000 <;> by_cases h3 : 0 ≤ p <;> by_cases h4 : p ≤ 9 <;> simp [h1, h2, h3, h4]
theorem m_check (u p : Int) : amount_CheckDecimal.f u p = some (if decOK u p = true then 0 else 1) := by
  unfold amount_CheckDecimal.f kit_Outside.f decOK
  by_cases h1 : u < -1000000000000000 <;> by_cases h2 : u > 1000000000000000 <;> by_cases h3 : p < 0 <;> by_cases h4 : p > 9 <;> simp [h1, h2, h3, h4, Int.not_le] <;> omega
theorem m_power_l0 (n : Nat) (hn : n ≤ 3) : ∀ (m i : Nat), m + i = n → Tends (fun k => order_power.l0 k ((10 : Int) ^ i) (n : Int) (i : Int)) ((10 : Int) ^ n) := by
  intro m
  induction m with
  | zero =>
    intro i hi
    have : i = n := by omega
    subst this
    refine Tends.step (fun k => by rw [order_power.l0]) ?_
    simp only [if_neg (show ¬ (i : Int) < (i : Int) by omega)]
    exact Tends.const _
  | succ m ih =>
    intro i hi
    refine Tends.step (fun k => by rw [order_power.l0]) ?_
    simp only [if_pos (show (i : Int) < (n : Int) by omega)]
    have hq : wrap64 ((10 : Int) ^ i * 10) = (10 : Int) ^ (i + 1) := by
      have : i = 0 ∨ i = 1 ∨ i = 2 := by omega
      rcases this with rfl | rfl | rfl <;> simp <;> exact w64 (by omega) (by omega)
    rw [hq]
    rw [show wrap64 ((i : Int) + 1) = ((i + 1 : Nat) : Int) by rw [w64] <;> omega]
    exact ih (i + 1) (by omega)
theorem m_within {u p : Int} (hu0 : 0 ≤ u) (hp0 : 0 ≤ p) (hp : p ≤ 3) : Tends (fun k => order_within.f k u p 3 1000000000) (decide (u ≤ 1000000000 * 10 ^ p.toNat)) := by
  unfold order_within.f order_power.f
  simp only [if_pos hp, if_pos (show u ≥ 0 by omega)]
  have h := m_power_l0 p.toNat (by omega) p.toNat 0 (by omega)
  simp only [Int.pow_zero] at h
  rw [Int.toNat_of_nonneg hp0] at h
  refine Tends.bind h ?_
  have hw : wrap64 (1000000000 * (10 : Int) ^ p.toNat) = 1000000000 * 10 ^ p.toNat := by
    have : p.toNat = 0 ∨ p.toNat = 1 ∨ p.toNat = 2 ∨ p.toNat = 3 := by omega
    rcases this with e | e | e | e <;> rw [e] <;> exact w64 (by omega) (by omega)
  rw [hw]
  exact Tends.const _
theorem m_Quantity (u p : Int) (zero : Bool) : Tends (fun k => order_QuantityFault.f k u p zero) (if massOK u p zero = true then 0 else 1) := by
  unfold order_QuantityFault.f
  simp only [m_check, Option.bind_some]
  by_cases hd : decOK u p = true
  · simp only [if_pos hd, if_true]
    have hd' := hd
    unfold decOK at hd'
    simp only [Bool.and_eq_true, decide_eq_true_eq] at hd'
    by_cases hp : p ≤ 3
    · by_cases hu : 0 ≤ u
      · refine Tends.bind (m_within hu hd'.1.2 hp) ?_
        by_cases hw : u ≤ 1000000000 * 10 ^ p.toNat
        · rw [decide_eq_true hw]
          simp only [if_true]
          by_cases h0 : u = 0
          · simp only [if_pos h0]
            cases zero with
            | true =>
              have e : massOK u p true = true := by
                unfold massOK
                simp [hu, hd'.1.2, hp, hw]
              simp only [if_true, e]
              exact Tends.const _
            | false =>
              have e : massOK u p false = false := by
                unfold massOK
                simp [h0]
              simp only [Bool.false_eq_true, if_false, e]
              exact Tends.const _
          · simp only [if_neg h0]
            have e : massOK u p zero = true := by
              unfold massOK
              simp [hu, hd'.1.2, hp, hw, h0]
            simp only [e, if_true]
            exact Tends.const _
        · rw [decide_eq_false hw]
          have e : massOK u p zero = false := by
            unfold massOK
            simp [hw]
          simp only [Bool.false_eq_true, if_false, e]
          exact Tends.const _
      · have e : massOK u p zero = false := by
          unfold massOK
          simp [hu]
        refine Tends.bind (a := false) ?_ ?_
        · unfold order_within.f
          simp only [if_pos hp, if_neg (show ¬ u ≥ 0 by omega)]
          exact Tends.const _
        · simp only [Bool.false_eq_true, if_false, e]
          exact Tends.const _
    · have e : massOK u p zero = false := by
        unfold massOK
        simp [hp]
      refine Tends.bind (a := false) ?_ ?_
      · unfold order_within.f
        simp only [if_neg hp]
        exact Tends.const _
      · simp only [Bool.false_eq_true, if_false, e]
        exact Tends.const _
  · have e : massOK u p zero = false := by
      rw [Bool.eq_false_iff]
      intro hm
      apply hd
      unfold massOK at hm
      unfold decOK
      simp only [Bool.and_eq_true, decide_eq_true_eq] at hm ⊢
      obtain ⟨⟨⟨⟨h1, h2⟩, h3⟩, h4⟩, _⟩ := hm
      have : p.toNat = 0 ∨ p.toNat = 1 ∨ p.toNat = 2 ∨ p.toNat = 3 := by omega
      rcases this with q | q | q | q <;> rw [q] at h4 <;> omega
    simp only [if_neg hd, e, Bool.false_eq_true, if_false, show ¬ (1 : Int) = 0 by omega]
    exact Tends.const _
theorem Lo_lt {n : Int} (h : n.natAbs < 1000000 ^ 20) : Lo n := by
  unfold Lo
  have := dgs_len_pow 20 _ h
  omega
theorem m_cmp {u p : Int} (hd : decOK u p = true) (hu : 0 ≤ u) : Tends (fun k => interchangeref10_cmp.f k u p 1000000000 0) (u * 10 ^ (9 - p).toNat - 1000000000 * 10 ^ 9).sign := by
  unfold decOK at hd
  simp only [Bool.and_eq_true, decide_eq_true_eq] at hd
  obtain ⟨⟨⟨h1, h2⟩, h3⟩, h4⟩ := hd
  unfold interchangeref10_cmp.f
  refine Tends.bind (r_At (by omega) (by omega) h4 (by omega)) ?_
  refine Tends.bind (r_At (u := 1000000000) (pl := 0) (p := 9) (by omega) (by omega) (by omega) (by omega)) ?_
  have e9 : ((9 : Int) - 0).toNat = 9 := by omega
  rw [e9]
  have hl1 : Lo (u * 10 ^ (9 - p).toNat) := by
    apply Lo_lt
    have hq : (9 - p).toNat ≤ 9 := by omega
    have h5 : ((10 : Int) ^ (9 - p).toNat).natAbs ≤ 10 ^ 9 := by
      rw [Int.natAbs_pow]
      exact Nat.pow_le_pow_right (by omega) hq
    rw [Int.natAbs_mul]
    have h6 : u.natAbs ≤ 1000000000000000 := by omega
    have h7 := Nat.mul_le_mul h6 h5
    have h8 : (1000000000000000 * 10 ^ 9 : Nat) < 1000000 ^ 20 := by decide +kernel
    omega
  have hl2 : Lo (1000000000 * 10 ^ 9) := Lo_lt (by decide +kernel)
  have hn : 0 ≤ u * 10 ^ (9 - p).toNat := Int.mul_nonneg hu (Int.pow_nonneg (by omega))
  refine Tends.bind (r_Cmp hl1 hl2 ?_) (Tends.const _)
  rw [decide_eq_false (show ¬ u * 10 ^ (9 - p).toNat < 0 by omega), decide_eq_true (show -(1000000000 * 10 ^ 9 : Int) < 0 by decide)]
  decide
theorem m_isMass (u p : Int) (above : Bool) : Tends (fun k => interchangeref10_isMass.f k u p above) (massOK u p (!above)) := by
  unfold interchangeref10_isMass.f
  simp only [m_refCheck, Option.bind_some]
  by_cases hd : decOK u p = true
  · simp only [if_pos hd, if_true]
    have hd' := hd
    unfold decOK at hd'
    simp only [Bool.and_eq_true, decide_eq_true_eq] at hd'
    obtain ⟨⟨⟨_, h2⟩, h3⟩, h4⟩ := hd'
    by_cases hu : 0 ≤ u
    · have hc := m_cmp hd hu
      simp only [if_pos (show u ≥ 0 by omega)]
      -- what the comparison says
      have key : ∀ b : Bool, (b = true ∨ u ≠ 0) → Tends (fun k => (interchangeref10_cmp.f k u p 1000000000 0).bind fun t => if t ≤ 0 then some (decide (p ≤ 3)) else some false) (massOK u p b) := by
        intro b hb
        refine Tends.bind hc ?_
        have hs : (u * 10 ^ (9 - p).toNat - 1000000000 * 10 ^ 9).sign ≤ 0 ↔ u * 10 ^ (9 - p).toNat ≤ 1000000000 * 10 ^ 9 := by
          rcases Int.lt_trichotomy (u * 10 ^ (9 - p).toNat - 1000000000 * 10 ^ 9) 0 with h | h | h
          · rw [Int.sign_eq_neg_one_of_neg h]
            omega
          · rw [h]
            simp only [Int.sign_zero]
            omega
          · rw [Int.sign_eq_one_of_pos h]
            omega
        have hb2 : (b || decide (u ≠ 0)) = true := by
          rcases hb with h | h
          · rw [h]
            rfl
          · rw [decide_eq_true h, Bool.or_true]
        by_cases hp : p ≤ 3
        · have e : (u * 10 ^ (9 - p).toNat ≤ 1000000000 * 10 ^ 9) ↔ u ≤ 1000000000 * 10 ^ p.toNat := by
            have : p = 0 ∨ p = 1 ∨ p = 2 ∨ p = 3 := by omega
            rcases this with rfl | rfl | rfl | rfl
            · show u * 10 ^ 9 ≤ _ ↔ u ≤ _ * 10 ^ 0
              omega
            · show u * 10 ^ 8 ≤ _ ↔ u ≤ _ * 10 ^ 1
              omega
            · show u * 10 ^ 7 ≤ _ ↔ u ≤ _ * 10 ^ 2
              omega
            · show u * 10 ^ 6 ≤ _ ↔ u ≤ _ * 10 ^ 3
              omega
          by_cases hle : u ≤ 1000000000 * 10 ^ p.toNat
          · simp only [if_pos (hs.2 (e.2 hle))]
            have : massOK u p b = true := by
              unfold massOK
              rw [hb2]
              simp [hu, h3, hp, hle]
            rw [this, decide_eq_true hp]
            exact Tends.const _
          · simp only [if_neg (fun q => hle (e.1 (hs.1 q)))]
            have : massOK u p b = false := by
              unfold massOK
              simp [hle]
            rw [this]
            exact Tends.const _
        · have : massOK u p b = false := by
            unfold massOK
            simp [hp]
          rw [this, decide_eq_false hp]
          simp only [ite_self]
          exact Tends.const _
      by_cases h0 : u > 0
      · simp only [if_pos h0]
        exact key _ (Or.inr (by omega))
      · simp only [if_neg h0]
        cases above with
        | true =>
          have e : massOK u p (!true) = false := by
            have : u = 0 := by omega
            unfold massOK
            simp [this]
          simp only [if_true]
          rw [e]
          exact Tends.const _
        | false =>
          simp only [Bool.false_eq_true, if_false]
          exact key _ (Or.inl rfl)
    · simp only [if_neg (show ¬ u ≥ 0 by omega)]
      have e : massOK u p (!above) = false := by
        unfold massOK
        simp [hu]
      rw [e]
      exact Tends.const _
  · have e : massOK u p (!above) = false := by
      rw [Bool.eq_false_iff]
      intro hm
      apply hd
      unfold massOK at hm
      unfold decOK
      simp only [Bool.and_eq_true, decide_eq_true_eq] at hm ⊢
      obtain ⟨⟨⟨⟨h1, h2⟩, h3⟩, h4⟩, _⟩ := hm
      have : p.toNat = 0 ∨ p.toNat = 1 ∨ p.toNat = 2 ∨ p.toNat = 3 := by omega
      rcases this with q | q | q | q <;> rw [q] at h4 <;> omega
    simp only [if_neg hd, show ¬ (1 : Int) = 0 by omega, if_false]
    rw [e]
    exact Tends.const _
end Go.Proofs.YthgefhnolmloiaaGreatDoor.P3
