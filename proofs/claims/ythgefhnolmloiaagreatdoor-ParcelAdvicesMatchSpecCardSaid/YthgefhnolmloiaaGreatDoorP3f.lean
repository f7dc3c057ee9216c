/- Contents of a parcel: the program and the reference find the same fault: plain laws. -/
import Derived.Test.YthgefhnolmloiaaGreatDoorP3e
namespace Go.Proofs.YthgefhnolmloiaaGreatDoor.P3
open Go Go.Proofs Go.RowKit YthgefhnolmloiaaGreatDoorW.PrintWords

abbrev SC := S66
abbrev rdC := rd_T66
/-- the first number that is not 0 -/
def fnz (l : List Int) : Nat → Nat → Int
  | 0, _ => 0
  | m + 1, i => if rd l (i : Int) = 0 then fnz l m (i + 1) else rd l (i : Int)
theorem c_ord_l0 (l : List Int) (hl : l.length < 4611686018427387904) : ∀ (m i : Nat), m + i = l.length → Tends (fun k => interchangeref10_contentOrder.l0 k l (l.length : Int) (i : Int)) (fnz l m i) := by
  intro m
  induction m with
  | zero =>
    intro i hi
    refine Tends.step (fun k => by rw [interchangeref10_contentOrder.l0]) ?_
    simp only [if_neg (show ¬ (i : Int) < (l.length : Int) by omega)]
    exact Tends.const _
  | succ m ih =>
    intro i hi
    have w1 : wrap64 ((i : Int) + 1) = ((i + 1 : Nat) : Int) := by rw [w64] <;> omega
    refine Tends.step (fun k => by rw [interchangeref10_contentOrder.l0]) ?_
    simp only [if_pos (show (i : Int) < (l.length : Int) by omega), if_pos (show (0 : Int) ≤ (i : Int) by omega), w1]
    unfold fnz
    by_cases h : rd l (i : Int) = 0
    · simp only [if_pos h]
      exact ih (i + 1) (by omega)
    · simp only [if_neg h]
      exact Tends.const _
theorem c_or_l0 (l : List Int) (hl : l.length < 4611686018427387904) : ∀ (m i : Nat), m + i = l.length → Tends (fun k => cmp_Or_int.l0 k 0 l (l.length : Int) (i : Int)) (fnz l m i) := by
  intro m
  induction m with
  | zero =>
    intro i hi
    refine Tends.step (fun k => by rw [cmp_Or_int.l0]) ?_
    simp only [if_neg (show ¬ (i : Int) < (l.length : Int) by omega)]
    exact Tends.const _
  | succ m ih =>
    intro i hi
    have w1 : wrap64 ((i : Int) + 1) = ((i + 1 : Nat) : Int) := by rw [w64] <;> omega
    refine Tends.step (fun k => by rw [cmp_Or_int.l0]) ?_
    simp only [if_pos (show (i : Int) < (l.length : Int) by omega), if_pos (show (0 : Int) ≤ (i : Int) by omega), w1]
    unfold fnz
    by_cases h : rd l (i : Int) = 0
    · simp only [if_pos h]
      exact ih (i + 1) (by omega)
    · simp only [if_neg h]
      exact Tends.const _
def ord3 (a b c a' b' c' : ByteArray) : Int := fnz [Lib.compareBytes a.data.toList a'.data.toList, Lib.compareBytes b.data.toList b'.data.toList, Lib.compareBytes c.data.toList c'.data.toList] 3 0
theorem c_order (a b c : ByteArray) (u p : Int) (a' b' c' : ByteArray) (u' p' : Int) : Tends (fun k => interchangeref10_contentOrder.f k a b c u p a' b' c' u' p') (ord3 a b c a' b' c') := by
  unfold interchangeref10_contentOrder.f strings_Compare.f
  simp only [Option.bind_some]
  exact c_ord_l0 _ (by simp) 3 0 rfl
theorem c_compare (a b c : ByteArray) (u p : Int) (a' b' c' : ByteArray) (u' p' : Int) : Tends (fun k => parcel_compareContents.f k a b c u p a' b' c' u' p') (ord3 a b c a' b' c') := by
  unfold parcel_compareContents.f strings_Compare.f cmp_Or_int.f
  simp only [Option.bind_some]
  exact Tends.bind (c_or_l0 _ (by simp) 3 0 rfl) (Tends.const _)

/-- strings that are not longer than can be -/
def zC (x : SC) : Prop := x.f0.size ≤ 9223372036854775807 ∧ x.f1.size ≤ 9223372036854775807 ∧ x.f2.size ≤ 9223372036854775807
def nmC (x : SC) : Bool := nameOK x.f0 && nameOK x.f1 && (decide (x.f2.size = 0) || nameOK x.f2)
def cF (l : List SC) : Nat → Nat → Int
  | 0, _ => 0
  | m + 1, i =>
    if nmC (rdC l (i : Int)) = false then 5
    else if i ≠ 0 ∧ 0 ≤ ord3 (rdC l ((i - 1 : Nat) : Int)).f0 (rdC l ((i - 1 : Nat) : Int)).f1 (rdC l ((i - 1 : Nat) : Int)).f2 (rdC l (i : Int)).f0 (rdC l (i : Int)).f1 (rdC l (i : Int)).f2 then 8
    else if massOK (rdC l (i : Int)).f3.f0 (rdC l (i : Int)).f3.f1 false = true then cF l m (i + 1) else 1
def cFault (l : List SC) : Int := if 100 < l.length then 2 else cF l l.length 0

section
variable {l : List SC} {i : Nat} {V : Int}
theorem c_ref_j2 (b : Bool) (x0 x1 x2 : ByteArray) (u p : Int) (hi : i < l.length) (hl : l.length < 4611686018427387904) (hV : Tends (fun k => interchangeref10_checkContents.l0 k l l (l.length : Int) ((i + 1 : Nat) : Int)) V) :
    Tends (fun k => interchangeref10_checkContents.j2 k l l (l.length : Int) (i : Int) b x0 x1 x2 u p) (if b = true then 8 else if massOK u p false = true then V else 1) := by
  have w1 : wrap64 ((i : Int) + 1) = ((i + 1 : Nat) : Int) := by rw [w64] <;> omega
  refine Tends.step (fun k => by rw [interchangeref10_checkContents.j2]) ?_
  cases b with
  | true => exact Tends.const _
  | false =>
    simp only [Bool.false_eq_true, if_false, w1]
    refine Tends.bind (m_isMass u p true) ?_
    rw [Bool.not_true]
    by_cases h : massOK u p false = true
    · simp only [h, if_true]
      exact hV
    · simp only [if_neg h]
      exact Tends.const _
theorem c_prog_j2 (b : Bool) (x0 x1 x2 : ByteArray) (u p : Int) (hi : i < l.length) (hl : l.length < 4611686018427387904) (hV : Tends (fun k => parcel_contentsFault.l0 k l l (l.length : Int) ((i + 1 : Nat) : Int)) V) :
    Tends (fun k => parcel_contentsFault.j2 k l l (l.length : Int) (i : Int) b x0 x1 x2 u p) (if b = true then 8 else if massOK u p false = true then V else 1) := by
  have w1 : wrap64 ((i : Int) + 1) = ((i + 1 : Nat) : Int) := by rw [w64] <;> omega
  refine Tends.step (fun k => by rw [parcel_contentsFault.j2]) ?_
  cases b with
  | true => exact Tends.const _
  | false =>
    simp only [Bool.false_eq_true, if_false, w1]
    refine Tends.bind (m_Quantity u p false) ?_
    by_cases h : massOK u p false = true
    · simp only [h, if_true]
      exact hV
    · simp only [if_neg h]
      exact Tends.const _
/-- what is left to say of an entry whose names are said -/
def cJ (l : List SC) (i : Nat) (b : Bool) (V : Int) : Int :=
  if b = true then 5
  else if i ≠ 0 ∧ 0 ≤ ord3 (rdC l ((i - 1 : Nat) : Int)).f0 (rdC l ((i - 1 : Nat) : Int)).f1 (rdC l ((i - 1 : Nat) : Int)).f2 (rdC l (i : Int)).f0 (rdC l (i : Int)).f1 (rdC l (i : Int)).f2 then 8
  else if massOK (rdC l (i : Int)).f3.f0 (rdC l (i : Int)).f3.f1 false = true then V else 1
theorem c_ref_j1 (b : Bool) (hi : i < l.length) (hl : l.length < 4611686018427387904) (hV : Tends (fun k => interchangeref10_checkContents.l0 k l l (l.length : Int) ((i + 1 : Nat) : Int)) V) :
    Tends (fun k => interchangeref10_checkContents.j1 k l (i : Int) l (l.length : Int) (i : Int) b (rdC l (i : Int)).f0 (rdC l (i : Int)).f1 (rdC l (i : Int)).f2 (rdC l (i : Int)).f3.f0 (rdC l (i : Int)).f3.f1) (cJ l i b V) := by
  refine Tends.step (fun k => by rw [interchangeref10_checkContents.j1]) ?_
  unfold cJ
  cases b with
  | true => exact Tends.const _
  | false =>
    simp only [Bool.false_eq_true, if_false]
    by_cases h0 : i = 0
    · subst h0
      simp only [if_neg (show ¬ (((0 : Nat) : Int) > 0) by decide), ne_eq, not_true_eq_false, false_and, if_false]
      exact c_ref_j2 false _ _ _ _ _ hi hl hV
    · have w1 : wrap64 ((i : Int) - 1) = ((i - 1 : Nat) : Int) := by rw [w64] <;> omega
      simp only [if_pos (show (i : Int) > 0 by omega), w1, if_pos (show (0 : Int) ≤ ((i - 1 : Nat) : Int) by omega), if_pos (show ((i - 1 : Nat) : Int) < (l.length : Int) by omega)]
      refine Tends.bind (c_order ..) ?_
      have h := c_ref_j2 (l := l) (i := i) (V := V) (decide (ord3 (rdC l ((i - 1 : Nat) : Int)).f0 (rdC l ((i - 1 : Nat) : Int)).f1 (rdC l ((i - 1 : Nat) : Int)).f2 (rdC l (i : Int)).f0 (rdC l (i : Int)).f1 (rdC l (i : Int)).f2 ≥ 0)) (rdC l (i : Int)).f0 (rdC l (i : Int)).f1 (rdC l (i : Int)).f2 (rdC l (i : Int)).f3.f0 (rdC l (i : Int)).f3.f1 hi hl hV
      simp only [decide_eq_true_eq, ge_iff_le] at h
      simp only [ne_eq, h0, not_false_eq_true, true_and]
      exact h
theorem c_prog_j1 (b : Bool) (hi : i < l.length) (hl : l.length < 4611686018427387904) (hV : Tends (fun k => parcel_contentsFault.l0 k l l (l.length : Int) ((i + 1 : Nat) : Int)) V) :
    Tends (fun k => parcel_contentsFault.j1 k l (i : Int) l (l.length : Int) (i : Int) b (rdC l (i : Int)).f0 (rdC l (i : Int)).f1 (rdC l (i : Int)).f2 (rdC l (i : Int)).f3.f0 (rdC l (i : Int)).f3.f1) (cJ l i b V) := by
  refine Tends.step (fun k => by rw [parcel_contentsFault.j1]) ?_
  unfold cJ
  cases b with
  | true => exact Tends.const _
  | false =>
    simp only [Bool.false_eq_true, if_false]
    by_cases h0 : i = 0
    · subst h0
      simp only [if_neg (show ¬ (((0 : Nat) : Int) > 0) by decide), ne_eq, not_true_eq_false, false_and, if_false]
      exact c_prog_j2 false _ _ _ _ _ hi hl hV
    · have w1 : wrap64 ((i : Int) - 1) = ((i - 1 : Nat) : Int) := by rw [w64] <;> omega
      simp only [if_pos (show (i : Int) > 0 by omega), w1, if_pos (show (0 : Int) ≤ ((i - 1 : Nat) : Int) by omega), if_pos (show ((i - 1 : Nat) : Int) < (l.length : Int) by omega)]
      refine Tends.bind (c_compare ..) ?_
      have h := c_prog_j2 (l := l) (i := i) (V := V) (decide (ord3 (rdC l ((i - 1 : Nat) : Int)).f0 (rdC l ((i - 1 : Nat) : Int)).f1 (rdC l ((i - 1 : Nat) : Int)).f2 (rdC l (i : Int)).f0 (rdC l (i : Int)).f1 (rdC l (i : Int)).f2 ≥ 0)) (rdC l (i : Int)).f0 (rdC l (i : Int)).f1 (rdC l (i : Int)).f2 (rdC l (i : Int)).f3.f0 (rdC l (i : Int)).f3.f1 hi hl hV
      simp only [decide_eq_true_eq, ge_iff_le] at h
      simp only [ne_eq, h0, not_false_eq_true, true_and]
      exact h
end
theorem cF_J (l : List SC) (m i : Nat) : cF l (m + 1) i = cJ l i (!(nmC (rdC l (i : Int)))) (cF l m (i + 1)) := by
  unfold cJ
  rw [cF]
  cases nmC (rdC l (i : Int)) <;> simp
theorem c_ref_l0 (l : List SC) (hz : ∀ i : Nat, i < l.length → zC (rdC l (i : Int))) (hl : l.length < 4611686018427387904) : ∀ (m i : Nat), m + i = l.length → Tends (fun k => interchangeref10_checkContents.l0 k l l (l.length : Int) (i : Int)) (cF l m i) := by
  intro m
  induction m with
  | zero =>
    intro i hi
    refine Tends.step (fun k => by rw [interchangeref10_checkContents.l0]) ?_
    simp only [if_neg (show ¬ (i : Int) < (l.length : Int) by omega)]
    exact Tends.const _
  | succ m ih =>
    intro i hi
    have hV := ih (i + 1) (by omega)
    obtain ⟨z0, z1, z2⟩ := hz i (by omega)
    have hj := fun b => c_ref_j1 (l := l) (i := i) b (by omega) hl hV
    rw [cF_J]
    refine Tends.step (fun k => by rw [interchangeref10_checkContents.l0]) ?_
    simp only [if_pos (show (i : Int) < (l.length : Int) by omega), if_pos (show (0 : Int) ≤ (i : Int) by omega)]
    refine Tends.bind (n_IsName _ z0) ?_
    unfold nmC
    by_cases h0 : nameOK (rdC l (i : Int)).f0 = true
    · simp only [h0, if_true, Bool.true_and]
      refine Tends.bind (n_IsName _ z1) ?_
      by_cases h1 : nameOK (rdC l (i : Int)).f1 = true
      · simp only [h1, if_true, Bool.true_and]
        by_cases h2 : (rdC l (i : Int)).f2.size = 0
        · simp only [if_pos ((toList_nil (rdC l (i : Int)).f2).2 h2), decide_eq_true h2, Bool.true_or]
          exact hj false
        · simp only [if_neg (fun e => h2 ((toList_nil (rdC l (i : Int)).f2).1 e)), decide_eq_false h2, Bool.false_or]
          exact Tends.bind (n_IsName _ z2) (hj _)
      · simp only [Bool.not_eq_true] at h1
        simp only [h1, Bool.false_eq_true, if_false, Bool.false_and]
        exact hj true
    · simp only [Bool.not_eq_true] at h0
      simp only [h0, Bool.false_eq_true, if_false, Bool.false_and]
      exact hj true
theorem c_prog_l0 (l : List SC) (hz : ∀ i : Nat, i < l.length → zC (rdC l (i : Int))) (hl : l.length < 4611686018427387904) : ∀ (m i : Nat), m + i = l.length → Tends (fun k => parcel_contentsFault.l0 k l l (l.length : Int) (i : Int)) (cF l m i) := by
  intro m
  induction m with
  | zero =>
    intro i hi
    refine Tends.step (fun k => by rw [parcel_contentsFault.l0]) ?_
    simp only [if_neg (show ¬ (i : Int) < (l.length : Int) by omega)]
    exact Tends.const _
  | succ m ih =>
    intro i hi
    have hV := ih (i + 1) (by omega)
    obtain ⟨z0, z1, z2⟩ := hz i (by omega)
    have hj := fun b => c_prog_j1 (l := l) (i := i) b (by omega) hl hV
    rw [cF_J]
    refine Tends.step (fun k => by rw [parcel_contentsFault.l0]) ?_
    simp only [if_pos (show (i : Int) < (l.length : Int) by omega), if_pos (show (0 : Int) ≤ (i : Int) by omega), n_kitIsName _ z0, n_kitIsName _ z1, n_kitIsName _ z2, Option.bind_some]
    unfold nmC
    by_cases h0 : nameOK (rdC l (i : Int)).f0 = true
    · simp only [h0, if_true, Bool.true_and]
      by_cases h1 : nameOK (rdC l (i : Int)).f1 = true
      · simp only [h1, if_true, Bool.true_and]
        by_cases h2 : (rdC l (i : Int)).f2.size = 0
        · simp only [if_pos ((toList_nil (rdC l (i : Int)).f2).2 h2), decide_eq_true h2, Bool.true_or]
          exact hj false
        · simp only [if_neg (fun e => h2 ((toList_nil (rdC l (i : Int)).f2).1 e)), decide_eq_false h2, Bool.false_or]
          exact hj _
      · simp only [Bool.not_eq_true] at h1
        simp only [h1, Bool.false_eq_true, if_false, Bool.false_and]
        exact hj true
    · simp only [Bool.not_eq_true] at h0
      simp only [h0, Bool.false_eq_true, if_false, Bool.false_and]
      exact hj true
theorem c_refContents (l : List SC) (hz : ∀ i : Nat, i < l.length → zC (rdC l (i : Int))) : Tends (fun k => interchangeref10_checkContents.f k l) (cFault l) := by
  unfold interchangeref10_checkContents.f cFault
  by_cases h : 100 < l.length
  · simp only [if_pos (show (l.length : Int) > 100 by omega), if_pos h]
    exact Tends.const _
  · simp only [if_neg (show ¬ (l.length : Int) > 100 by omega), if_neg h]
    exact c_ref_l0 l hz (by omega) l.length 0 rfl
theorem c_progContents (l : List SC) (hz : ∀ i : Nat, i < l.length → zC (rdC l (i : Int))) : Tends (fun k => parcel_contentsFault.f k l) (cFault l) := by
  unfold parcel_contentsFault.f cFault
  by_cases h : 100 < l.length
  · simp only [if_pos (show (l.length : Int) > 100 by omega), if_pos h]
    exact Tends.const _
  · simp only [if_neg (show ¬ (l.length : Int) > 100 by omega), if_neg h]
    exact c_prog_l0 l hz (by omega) l.length 0 rfl
end Go.Proofs.YthgefhnolmloiaaGreatDoor.P3
