/- Days and labels: the program and the reference answer alike: plain laws. -/
import Derived.Test.YthgefhnolmloiaaGreatDoorP3c
namespace Go.Proofs.YthgefhnolmloiaaGreatDoor.P3
open Go Go.Proofs Go.RowKit YthgefhnolmloiaaGreatDoorW.PrintWords

def dayOK (n : Int) : Bool := decide (1 ≤ n) && decide (n ≤ 3652059)
theorem l_IsDay (n : Int) : interchangeref1_IsDay.f n = some (dayOK n) := by
  unfold interchangeref1_IsDay.f interchangeref1_isDay.f interchangeref1_within.f dayOK
  by_cases h : 1 ≤ n
  · simp [h]
  · simp [h]
theorem l_kitIsDay (n : Int) : kit_IsDay.f n = some (dayOK n) := by
  unfold kit_IsDay.f kit_Outside.f dayOK
  by_cases h : n < 1
  · have h1 : ¬ 1 ≤ n := by omega
    simp [h, h1]
  · have h1 : 1 ≤ n := by omega
    simp only [if_neg h, h1, Option.bind_some, decide_true, Bool.true_and]
    congr 1
    by_cases h2 : n > 3652059
    · rw [decide_eq_true h2, decide_eq_false (by omega)]
      rfl
    · rw [decide_eq_false h2, decide_eq_true (by omega)]
      rfl
/-! ### a number in a list -/
theorem l_Index (l : List Int) (x : Int) (hl : l.length < 4611686018427387904) : ∀ (m i : Nat), m + i = l.length → ∃ r : Int, Tends (fun k => slices_Index_int_int.l0 k l x (l.length : Int) (i : Int)) r ∧ (0 ≤ r ↔ x ∈ l.drop i) := by
  intro m
  induction m with
  | zero =>
    intro i hi
    refine ⟨-1, ?_, ?_⟩
    · refine Tends.step (fun k => by rw [slices_Index_int_int.l0]) ?_
      simp only [if_neg (show ¬ (i : Int) < (l.length : Int) by omega)]
      exact Tends.const _
    · rw [List.drop_eq_nil_of_le (by omega)]
      simp
  | succ m ih =>
    intro i hi
    obtain ⟨r, hr, hr2⟩ := ih (i + 1) (by omega)
    have w1 : wrap64 ((i : Int) + 1) = ((i + 1 : Nat) : Int) := by rw [w64] <;> omega
    have hil : i < l.length := by omega
    have e : l.drop i = l.getD i 0 :: l.drop (i + 1) := by
      rw [List.drop_eq_getElem_cons hil]
      simp [hil]
    by_cases h : x = l.getD i 0
    · refine ⟨(i : Int), ?_, ?_⟩
      · refine Tends.step (fun k => by rw [slices_Index_int_int.l0]) ?_
        simp only [if_pos (show (i : Int) < (l.length : Int) by omega), if_pos (show (0 : Int) ≤ (i : Int) by omega), rd_nat, if_pos h]
        exact Tends.const _
      · rw [e, ← h]
        simp
    · refine ⟨r, ?_, ?_⟩
      · refine Tends.step (fun k => by rw [slices_Index_int_int.l0]) ?_
        simp only [if_pos (show (i : Int) < (l.length : Int) by omega), if_pos (show (0 : Int) ≤ (i : Int) by omega), rd_nat, if_neg h, w1]
        exact hr
      · rw [hr2, e, List.mem_cons]
        constructor
        · exact Or.inr
        · rintro (q | q)
          · exact absurd q h
          · exact q
theorem l_Contains (l : List Int) (x : Int) (hl : l.length < 4611686018427387904) : Tends (fun k => slices_Contains_int_int.f k l x) (decide (x ∈ l)) := by
  obtain ⟨r, hr, hr2⟩ := l_Index l x hl l.length 0 (by omega)
  unfold slices_Contains_int_int.f slices_Index_int_int.f
  refine Tends.bind hr ?_
  rw [List.drop_zero] at hr2
  have : decide (r ≥ 0) = decide (x ∈ l) := by
    congr 1
    exact propext hr2
  rw [← this]
  exact Tends.const _
/-! ### digits -/
def allD (s : ByteArray) : Nat → Nat → Bool
  | 0, _ => true
  | m + 1, i => decide (48 ≤ bt s (i : Int)) && decide (bt s (i : Int) ≤ 57) && allD s m (i + 1)
theorem l_isDigits_l0 (s : ByteArray) (hs : s.size ≤ 9223372036854775807) : ∀ (m i : Nat), m + i = s.size → Tends (fun k => interchangeref1_isDigits.l0 k s (s.size : Int) (i : Int)) (allD s m i) := by
  intro m
  induction m with
  | zero =>
    intro i hi
    refine Tends.step (fun k => by rw [interchangeref1_isDigits.l0]) ?_
    simp only [if_neg (show ¬ (i : Int) < (s.size : Int) by omega)]
    exact Tends.const _
  | succ m ih =>
    intro i hi
    have hn := ih (i + 1) (by omega)
    have w1 : wrap64 ((i : Int) + 1) = ((i + 1 : Nat) : Int) := by rw [w64] <;> omega
    refine Tends.step (fun k => by rw [interchangeref1_isDigits.l0]) ?_
    simp only [if_pos (show (i : Int) < (s.size : Int) by omega), if_pos (show (0 : Int) ≤ (i : Int) by omega), w1]
    unfold allD
    by_cases h1 : bt s (i : Int) < 48
    · simp only [if_pos h1]
      rw [show decide (48 ≤ bt s (i : Int)) = false from decide_eq_false (by omega)]
      simp only [Bool.false_and]
      exact Tends.const _
    · simp only [if_neg h1]
      rw [show decide (48 ≤ bt s (i : Int)) = true from decide_eq_true (by omega)]
      by_cases h2 : bt s (i : Int) > 57
      · simp only [if_pos h2]
        rw [show decide (bt s (i : Int) ≤ 57) = false from decide_eq_false (by omega)]
        simp only [Bool.and_false, Bool.false_and]
        exact Tends.const _
      · simp only [if_neg h2]
        rw [show decide (bt s (i : Int) ≤ 57) = true from decide_eq_true (by omega)]
        simp only [Bool.true_and]
        exact hn
theorem l_InBytes_l0 (s : ByteArray) (hs : s.size ≤ 9223372036854775807) : ∀ (m i : Nat), m + i = s.size → Tends (fun k => kit_InBytes.l0 k s 48 57 (s.size : Int) (i : Int)) (allD s m i) := by
  intro m
  induction m with
  | zero =>
    intro i hi
    refine Tends.step (fun k => by rw [kit_InBytes.l0]) ?_
    simp only [if_neg (show ¬ (i : Int) < (s.size : Int) by omega)]
    exact Tends.const _
  | succ m ih =>
    intro i hi
    have hn := ih (i + 1) (by omega)
    have w1 : wrap64 ((i : Int) + 1) = ((i + 1 : Nat) : Int) := by rw [w64] <;> omega
    refine Tends.step (fun k => by rw [kit_InBytes.l0]) ?_
    simp only [if_pos (show (i : Int) < (s.size : Int) by omega), if_pos (show (0 : Int) ≤ (i : Int) by omega), w1]
    unfold allD
    by_cases h1 : bt s (i : Int) < 48
    · simp only [if_pos h1]
      rw [show decide (48 ≤ bt s (i : Int)) = false from decide_eq_false (by omega)]
      simp only [Bool.false_and]
      exact Tends.const _
    · simp only [if_neg h1]
      rw [show decide (48 ≤ bt s (i : Int)) = true from decide_eq_true (by omega)]
      by_cases h2 : bt s (i : Int) > 57
      · simp only [if_pos h2]
        rw [show decide (bt s (i : Int) ≤ 57) = false from decide_eq_false (by omega)]
        simp only [Bool.and_false, Bool.false_and]
        exact Tends.const _
      · simp only [if_neg h2]
        rw [show decide (bt s (i : Int) ≤ 57) = true from decide_eq_true (by omega)]
        simp only [Bool.true_and]
        exact hn
def digitsOK (s : ByteArray) : Bool := decide (s.size ≠ 0) && allD s s.size 0
theorem l_isDigits (s : ByteArray) (hs : s.size ≤ 9223372036854775807) : Tends (fun k => interchangeref1_isDigits.f k s) (digitsOK s) := by
  unfold interchangeref1_isDigits.f digitsOK
  by_cases h0 : s.size = 0
  · simp only [if_pos ((toList_nil s).2 h0)]
    simp only [h0, ne_eq, not_true, decide_false, Bool.false_and]
    exact Tends.const _
  · simp only [if_neg (fun e => h0 ((toList_nil s).1 e))]
    rw [show decide (s.size ≠ 0) = true from decide_eq_true h0, Bool.true_and]
    exact l_isDigits_l0 s hs s.size 0 (by omega)
theorem l_IsDigits (s : ByteArray) (hs : s.size ≤ 9223372036854775807) : Tends (fun k => kit_IsDigits.f k s) (digitsOK s) := by
  unfold kit_IsDigits.f kit_InBytes.f digitsOK
  by_cases h0 : s.size = 0
  · simp only [if_pos ((toList_nil s).2 h0)]
    simp only [h0, ne_eq, not_true, decide_false, Bool.false_and]
    exact Tends.const _
  · simp only [if_neg (fun e => h0 ((toList_nil s).1 e))]
    rw [show decide (s.size ≠ 0) = true from decide_eq_true h0, Bool.true_and]
    exact Tends.bind (l_InBytes_l0 s hs s.size 0 (by omega)) (Tends.const _)
/-! ### the check digit -/
def smF (s : ByteArray) : Nat → Nat → Int → Bool
  | 0, _, acc => (Int.tmod acc 10) == 0
  | m + 1, i, acc => smF s m (i + 1) (if Int.tmod (i : Int) 2 = 1 then wrap64 (acc + (((bt s ((s.size : Int) - 1 - i)) - 48) % 256) * 3) else wrap64 (acc + (((bt s ((s.size : Int) - 1 - i)) - 48) % 256)))
theorem l_threes_l0 (s : ByteArray) (hs : s.size ≤ 9223372036854775807) : ∀ (m i : Nat) (acc : Int), m + i = s.size → Tends (fun k => interchangeref1_threes.l0 k s acc (s.size : Int) (i : Int)) (smF s m i acc) := by
  intro m
  induction m with
  | zero =>
    intro i acc hi
    refine Tends.step (fun k => by rw [interchangeref1_threes.l0]) ?_
    simp only [if_neg (show ¬ (i : Int) < (s.size : Int) by omega)]
    exact Tends.const _
  | succ m ih =>
    intro i acc hi
    have w1 : wrap64 ((i : Int) + 1) = ((i + 1 : Nat) : Int) := by rw [w64] <;> omega
    have w2 : wrap64 ((s.size : Int) - 1) = (s.size : Int) - 1 := w64 (by omega) (by omega)
    have w3 : wrap64 ((s.size : Int) - 1 - (i : Int)) = (s.size : Int) - 1 - (i : Int) := w64 (by omega) (by omega)
    refine Tends.step (fun k => by rw [interchangeref1_threes.l0]) ?_
    simp only [w2, w3, if_pos (show (i : Int) < (s.size : Int) by omega), if_pos (show (0 : Int) ≤ (s.size : Int) - 1 - (i : Int) by omega), if_pos (show (s.size : Int) - 1 - (i : Int) < (s.size : Int) by omega), w1]
    unfold smF
    by_cases h : Int.tmod (i : Int) 2 = 1
    · simp only [if_pos h]
      exact ih (i + 1) _ (by omega)
    · simp only [if_neg h]
      exact ih (i + 1) _ (by omega)
theorem l_isSum_l0 (s : ByteArray) (hs : s.size ≤ 9223372036854775807) : ∀ (m i : Nat) (acc : Int), m + i = s.size → Tends (fun k => amount_isSum.l0 k s acc (s.size : Int) (i : Int)) (smF s m i acc) := by
  intro m
  induction m with
  | zero =>
    intro i acc hi
    refine Tends.step (fun k => by rw [amount_isSum.l0]) ?_
    simp only [if_neg (show ¬ (i : Int) < (s.size : Int) by omega)]
    exact Tends.const _
  | succ m ih =>
    intro i acc hi
    have w1 : wrap64 ((i : Int) + 1) = ((i + 1 : Nat) : Int) := by rw [w64] <;> omega
    have w2 : wrap64 ((s.size : Int) - 1) = (s.size : Int) - 1 := w64 (by omega) (by omega)
    have w3 : wrap64 ((s.size : Int) - 1 - (i : Int)) = (s.size : Int) - 1 - (i : Int) := w64 (by omega) (by omega)
    refine Tends.step (fun k => by rw [amount_isSum.l0]) ?_
    simp only [w2, w3, if_pos (show (i : Int) < (s.size : Int) by omega), if_pos (show (0 : Int) ≤ (s.size : Int) - 1 - (i : Int) by omega), if_pos (show (s.size : Int) - 1 - (i : Int) < (s.size : Int) by omega), w1]
    unfold smF
    by_cases h : Int.tmod (i : Int) 2 = 1
    · simp only [if_pos h]
      exact ih (i + 1) _ (by omega)
    · simp only [if_neg h]
      exact ih (i + 1) _ (by omega)
def labelOK (s : ByteArray) : Bool := decide (s.size = 18) && digitsOK s && smF s s.size 0 0
theorem l_refLabel (s : ByteArray) (hs : s.size ≤ 9223372036854775807) : Tends (fun k => interchangeref10_isLabel.f k s) (labelOK s) := by
  unfold interchangeref10_isLabel.f
  refine Tends.bind (a := (labelOK s, 0)) ?_ (Tends.const _)
  unfold interchangeref1_IsNumber.f interchangeref1_isKind.f interchangeref1_within.f
  simp only [if_pos (show (1 : Int) ≤ 3 by omega), Option.bind_some, decide_eq_true (show (3 : Int) ≤ 5 by omega), if_true]
  refine Tends.bind (a := labelOK s) ?_ (Tends.const _)
  unfold interchangeref1_isNumber.f labelOK
  simp only [if_neg (show ¬ (3 : Int) = 1 by omega), if_neg (show ¬ (3 : Int) = 2 by omega), if_true]
  refine Tends.bind (l_isDigits s hs) ?_
  by_cases h : digitsOK s = true
  · simp only [if_pos h]
    by_cases h1 : s.size = 18
    · simp only [if_pos (show (s.size : Int) = 18 by omega)]
      rw [show decide (s.size = 18) = true from decide_eq_true h1, h, Bool.true_and, Bool.true_and]
      unfold interchangeref1_threes.f
      exact Tends.bind (l_threes_l0 s hs s.size 0 0 (by omega)) (Tends.const _)
    · simp only [if_neg (show ¬ (s.size : Int) = 18 by omega)]
      rw [show decide (s.size = 18) = false from decide_eq_false h1, Bool.false_and, Bool.false_and]
      exact Tends.const _
  · simp only [if_neg h]
    rw [show digitsOK s = false by simpa using h, Bool.and_false, Bool.false_and]
    exact Tends.const _
theorem l_isLabel (s : ByteArray) (hs : s.size ≤ 9223372036854775807) : Tends (fun k => parcel_isLabel.f k s) (labelOK s) := by
  unfold parcel_isLabel.f
  refine Tends.bind (a := (labelOK s, 0)) ?_ (Tends.const _)
  unfold amount_IsNumber.f amount_isKind.f kit_Outside.f
  simp only [if_neg (show ¬ (3 : Int) < 1 by omega), Option.bind_some, decide_eq_false (show ¬ (3 : Int) > 5 by omega), Bool.not_false, if_true]
  refine Tends.bind (a := labelOK s) ?_ (Tends.const _)
  unfold amount_isNumber.f amount_lengths.f labelOK
  simp only [if_neg (show ¬ (3 : Int) = 4 by omega), if_neg (show ¬ (3 : Int) = 5 by omega), if_neg (show ¬ (3 : Int) = 1 by omega), if_neg (show ¬ (3 : Int) = 2 by omega), Option.bind_some]
  refine Tends.bind (l_Contains [18] (s.size : Int) (by simp)) ?_
  by_cases h1 : s.size = 18
  · have e : decide ((s.size : Int) ∈ [(18 : Int)]) = true := decide_eq_true (by simp; omega)
    simp only [e, if_true]
    rw [show decide (s.size = 18) = true from decide_eq_true h1, Bool.true_and]
    refine Tends.bind (l_IsDigits s hs) ?_
    by_cases h : digitsOK s = true
    · simp only [if_pos h]
      rw [h, Bool.true_and]
      unfold amount_isSum.f
      exact Tends.bind (l_isSum_l0 s hs s.size 0 0 (by omega)) (Tends.const _)
    · simp only [if_neg h]
      rw [show digitsOK s = false by simpa using h, Bool.false_and]
      exact Tends.const _
  · have e : decide ((s.size : Int) ∈ [(18 : Int)]) = false := decide_eq_false (by simp; omega)
    simp only [e, Bool.false_eq_true, if_false]
    rw [show decide (s.size = 18) = false from decide_eq_false h1, Bool.false_and, Bool.false_and]
    exact Tends.const _
end Go.Proofs.YthgefhnolmloiaaGreatDoor.P3
