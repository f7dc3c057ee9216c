/- Labels in order, the search for one, and how parcels lie in one another: the program and the reference alike: plain laws. -/
import Derived.Test.YthgefhnolmloiaaGreatDoorP3f
namespace Go.Proofs.YthgefhnolmloiaaGreatDoor.P3
open Go Go.Proofs Go.RowKit YthgefhnolmloiaaGreatDoorW.PrintWords

abbrev SP := S42
abbrev rdP := rd_T42

/-! ### the order of labels -/
theorem cb_lt : ∀ a b : List UInt8, Lib.compareBytes a b < 0 ↔ Op.bytesLess a b = true
  | [], [] => by simp [Lib.compareBytes, Op.bytesLess]
  | [], _ :: _ => by simp [Lib.compareBytes, Op.bytesLess]
  | _ :: _, [] => by simp [Lib.compareBytes, Op.bytesLess]
  | x :: a, y :: b => by
    unfold Lib.compareBytes Op.bytesLess
    by_cases h1 : x < y
    · simp [h1]
    · by_cases h2 : y < x
      · have h3 : ¬ x = y := fun e => UInt8.lt_irrefl x (by rw [← e] at h2; exact h2)
        simp [h1, h2, h3]
      · have h3 : x = y := UInt8.le_antisymm (UInt8.not_lt.1 h2) (UInt8.not_lt.1 h1)
        subst h3
        simp [h1, cb_lt a b]
theorem cb_eq : ∀ a b : List UInt8, Lib.compareBytes a b = 0 ↔ a = b
  | [], [] => by simp [Lib.compareBytes]
  | [], _ :: _ => by simp [Lib.compareBytes]
  | _ :: _, [] => by simp [Lib.compareBytes]
  | x :: a, y :: b => by
    unfold Lib.compareBytes
    by_cases h1 : x < y
    · have h3 : ¬ x = y := fun e => UInt8.lt_irrefl x (by rw [← e] at h1; exact h1)
      simp [h1, h3]
    · by_cases h2 : y < x
      · have h3 : ¬ x = y := fun e => UInt8.lt_irrefl x (by rw [← e] at h2; exact h2)
        simp [h1, h2, h3]
      · have h3 : x = y := UInt8.le_antisymm (UInt8.not_lt.1 h2) (UInt8.not_lt.1 h1)
        subst h3
        simp [h1, cb_eq a b]
theorem bl_irrefl (a : List UInt8) : Op.bytesLess a a = false := by
  cases h : Op.bytesLess a a with
  | false => rfl
  | true =>
    have h1 := (cb_lt a a).2 h
    rw [(cb_eq a a).2 rfl] at h1
    exact absurd h1 (by decide)
theorem bl_trans : ∀ a b c : List UInt8, Op.bytesLess a b = true → Op.bytesLess b c = true → Op.bytesLess a c = true
  | _, [], _, h, _ => by simp [Op.bytesLess] at h
  | _, _ :: _, [], _, h => by simp [Op.bytesLess] at h
  | [], _ :: _, _ :: _, _, _ => by simp [Op.bytesLess]
  | x :: a, y :: b, z :: c, h1, h2 => by
    unfold Op.bytesLess at h1 h2 ⊢
    simp only [Bool.or_eq_true, decide_eq_true_eq, Bool.and_eq_true, beq_iff_eq] at h1 h2 ⊢
    rcases h1 with h1 | ⟨rfl, h1⟩
    · rcases h2 with h2 | ⟨rfl, h2⟩
      · exact Or.inl (UInt8.lt_trans h1 h2)
      · exact Or.inl h1
    · rcases h2 with h2 | ⟨rfl, h2⟩
      · exact Or.inl h2
      · exact Or.inr ⟨rfl, bl_trans a b c h1 h2⟩

def lab (l : List SP) (i : Nat) : List UInt8 := ((rdP l (i : Int)).f0).toList
def inn (l : List SP) (i : Nat) : ByteArray := (rdP l (i : Int)).f1
/-- the labels below number n are in order -/
def SrtTo (l : List SP) (n : Nat) : Prop := ∀ j, j + 1 < n → Op.bytesLess (lab l j) (lab l (j + 1)) = true
theorem SrtTo.lt {l : List SP} {n : Nat} (h : SrtTo l n) : ∀ (d i : Nat), i + d + 1 < n → Op.bytesLess (lab l i) (lab l (i + d + 1)) = true
  | 0, i, hi => h i hi
  | d + 1, i, hi => bl_trans _ _ _ (SrtTo.lt h d i (by omega)) (h (i + d + 1) hi)
theorem SrtTo.lt' {l : List SP} {n i j : Nat} (h : SrtTo l n) (hij : i < j) (hj : j < n) : Op.bytesLess (lab l i) (lab l j) = true := by
  have := h.lt (j - i - 1) i (by omega)
  rwa [show i + (j - i - 1) + 1 = j by omega] at this
theorem SrtTo.inj {l : List SP} {n i j : Nat} (h : SrtTo l n) (hi : i < n) (hj : j < n) (e : lab l i = lab l j) : i = j := by
  rcases Nat.lt_trichotomy i j with h1 | h1 | h1
  · have := h.lt' h1 hj
    rw [e, bl_irrefl] at this
    cases this
  · exact h1
  · have := h.lt' h1 hi
    rw [e, bl_irrefl] at this
    cases this

/-! ### the first parcel with a label -/
def ixF (l : List SP) (s : ByteArray) : Nat → Nat → Option Nat
  | 0, _ => none
  | m + 1, i => if lab l i = s.toList then some i else ixF l s m (i + 1)
def ix (l : List SP) (s : ByteArray) : Option Nat := ixF l s l.length 0
theorem ixF_some {l : List SP} {s : ByteArray} : ∀ (m i j : Nat), ixF l s m i = some j → i ≤ j ∧ j < m + i ∧ lab l j = s.toList
  | 0, i, j, h => by simp [ixF] at h
  | m + 1, i, j, h => by
    unfold ixF at h
    split at h
    · rename_i h1
      obtain rfl := Option.some.inj h
      exact ⟨by omega, by omega, h1⟩
    · obtain ⟨h1, h2, h3⟩ := ixF_some m (i + 1) j h
      exact ⟨by omega, by omega, h3⟩
theorem ixF_none {l : List SP} {s : ByteArray} : ∀ (m i : Nat), ixF l s m i = none → ∀ j, i ≤ j → j < m + i → lab l j ≠ s.toList
  | 0, i, h, j, h1, h2 => by omega
  | m + 1, i, h, j, h1, h2 => by
    unfold ixF at h
    split at h
    · cases h
    · rename_i h3
      by_cases e : j = i
      · subst e
        exact h3
      · exact ixF_none m (i + 1) h j (by omega) (by omega)
theorem ix_some {l : List SP} {s : ByteArray} {j : Nat} (h : ix l s = some j) : j < l.length ∧ lab l j = s.toList := by
  obtain ⟨_, h2, h3⟩ := ixF_some _ _ _ h
  exact ⟨by omega, h3⟩
theorem ix_none {l : List SP} {s : ByteArray} (h : ix l s = none) (j : Nat) (hj : j < l.length) : lab l j ≠ s.toList := ixF_none _ _ h j (by omega) (by omega)
def ixI (o : Option Nat) : Int := match o with
  | some j => (j : Int)
  | none => -1
theorem p_parcelOf_l0 (l : List SP) (s : ByteArray) (hl : l.length ≤ 500) : ∀ (m i : Nat), m + i = l.length → Tends (fun k => interchangeref10_parcelOf.l0 k s l (l.length : Int) (i : Int)) (ixI (ixF l s m i)) := by
  intro m
  induction m with
  | zero =>
    intro i hi
    refine Tends.step (fun k => by rw [interchangeref10_parcelOf.l0]) ?_
    simp only [if_neg (show ¬ (i : Int) < (l.length : Int) by omega)]
    exact Tends.const _
  | succ m ih =>
    intro i hi
    have w1 : wrap64 ((i : Int) + 1) = ((i + 1 : Nat) : Int) := by rw [w64] <;> omega
    refine Tends.step (fun k => by rw [interchangeref10_parcelOf.l0]) ?_
    simp only [if_pos (show (i : Int) < (l.length : Int) by omega), if_pos (show (0 : Int) ≤ (i : Int) by omega), w1]
    unfold ixF
    by_cases h : lab l i = s.toList
    · have h' : ((rdP l (i : Int)).f0).toList = s.toList := h
      simp only [if_pos h, if_pos h']
      exact Tends.const _
    · have h' : ¬ ((rdP l (i : Int)).f0).toList = s.toList := h
      simp only [if_neg h, if_neg h']
      exact ih (i + 1) (by omega)
theorem p_parcelOf (l : List SP) (s : ByteArray) (hl : l.length ≤ 500) : Tends (fun k => interchangeref10_parcelOf.f k l s) (ixI (ix l s)) := p_parcelOf_l0 l s hl l.length 0 rfl

/-! ### the search by halves -/
theorem half_eq (i j : Nat) (hi : i ≤ 500) (hj : j ≤ 500) : wrap64 ((IntKind.u64.wrap (wrap64 ((i : Int) + (j : Int)))) / 2) = (((i + j) / 2 : Nat) : Int) := by
  have h1 : wrap64 ((i : Int) + (j : Int)) = ((i + j : Nat) : Int) := by rw [w64] <;> omega
  have h2 : IntKind.u64.wrap ((i + j : Nat) : Int) = ((i + j : Nat) : Int) := by
    have e : IntKind.u64.wrap ((i + j : Nat) : Int) = ((i + j : Nat) : Int) % 18446744073709551616 := rfl
    rw [e]
    omega
  rw [h1, h2, w64] <;> omega
theorem p_search_l0 (l : List SP) (s : ByteArray) (hl : l.length ≤ 500) (hs : SrtTo l l.length) : ∀ (d i j : Nat), j - i ≤ d → i ≤ j → j ≤ l.length → (∀ p, p < i → Op.bytesLess (lab l p) s.toList = true) → (∀ p, j ≤ p → p < l.length → Op.bytesLess (lab l p) s.toList = false) →
    ∃ t : Nat, t ≤ l.length ∧ (∀ p, p < t → Op.bytesLess (lab l p) s.toList = true) ∧ (∀ p, t ≤ p → p < l.length → Op.bytesLess (lab l p) s.toList = false) ∧
      Tends (fun k => api_Parcel_string__parcel_parcelAt_1.l0 k l s (l.length : Int) (i : Int) (j : Int)) ((t : Int), if t < l.length then decide (lab l t = s.toList) else false) := by
  intro d
  induction d with
  | zero =>
    intro i j hd hij hj h1 h2
    obtain rfl : i = j := by omega
    refine ⟨i, hj, h1, h2, ?_⟩
    refine Tends.step (fun k => by rw [api_Parcel_string__parcel_parcelAt_1.l0]) ?_
    simp only [if_neg (show ¬ (i : Int) < (i : Int) by omega)]
    by_cases h : i < l.length
    · simp only [if_pos (show (i : Int) < (l.length : Int) by omega), if_pos (show (0 : Int) ≤ (i : Int) by omega), if_pos h]
      unfold parcel_parcelAt_1.f strings_Compare.f
      simp only [Option.bind_some]
      have e : (Lib.compareBytes ((rdP l (i : Int)).f0).data.toList s.data.toList == 0) = decide (lab l i = s.toList) := by
        have h3 := cb_eq ((rdP l (i : Int)).f0).data.toList s.data.toList
        unfold lab
        rw [ByteArray.toList_eq, ByteArray.toList_eq]
        by_cases h4 : ((rdP l (i : Int)).f0).data.toList = s.data.toList
        · rw [decide_eq_true h4, h3.2 h4]
          rfl
        · rw [decide_eq_false h4]
          exact beq_eq_false_iff_ne.2 fun e => h4 (h3.1 e)
      refine Tends.of fun k => ?_
      exact congrArg (fun b => some ((i : Int), b)) e
    · simp only [if_neg (show ¬ (i : Int) < (l.length : Int) by omega), if_neg h]
      exact Tends.const _
  | succ d ih =>
    intro i j hd hij hj h1 h2
    by_cases hij2 : i = j
    · exact ih i j (by omega) hij hj h1 h2
    · obtain ⟨h, hh⟩ : ∃ h, h = (i + j) / 2 := ⟨_, rfl⟩
      have hw := half_eq i j (by omega) (by omega)
      rw [← hh] at hw
      have hih : i ≤ h := by omega
      have hhj : h < j := by omega
      have w1 : wrap64 ((h : Int) + 1) = ((h + 1 : Nat) : Int) := by rw [w64] <;> omega
      have hc : Lib.compareBytes ((rdP l (h : Int)).f0).data.toList s.data.toList < 0 ↔ Op.bytesLess (lab l h) s.toList = true := by
        unfold lab
        rw [ByteArray.toList_eq, ByteArray.toList_eq]
        exact cb_lt _ _
      by_cases hb : Op.bytesLess (lab l h) s.toList = true
      · obtain ⟨t, ht, a1, a2, a3⟩ := ih (h + 1) j (by omega) (by omega) hj (fun p hp => by
          by_cases e : p = h
          · subst e
            exact hb
          · exact bl_trans _ _ _ (hs.lt' (show p < h by omega) (by omega)) hb) h2
        refine ⟨t, ht, a1, a2, ?_⟩
        refine Tends.step (fun k => by rw [api_Parcel_string__parcel_parcelAt_1.l0]) ?_
        simp only [if_pos (show (i : Int) < (j : Int) by omega), hw, if_pos (show (0 : Int) ≤ (h : Int) by omega), if_pos (show (h : Int) < (l.length : Int) by omega)]
        unfold parcel_parcelAt_1.f strings_Compare.f
        simp only [Option.bind_some, w1]
        have hc' := hc.2 hb
        simp only [if_pos hc']
        exact a3
      · have hb' : Op.bytesLess (lab l h) s.toList = false := by simpa using hb
        obtain ⟨t, ht, a1, a2, a3⟩ := ih i h (by omega) (by omega) (by omega) h1 (fun p hp hpn => by
          by_cases e : p = h
          · subst e
            exact hb'
          · cases hq : Op.bytesLess (lab l p) s.toList with
            | false => rfl
            | true => exact absurd (bl_trans _ _ _ (hs.lt' (show h < p by omega) hpn) hq) hb)
        refine ⟨t, ht, a1, a2, ?_⟩
        refine Tends.step (fun k => by rw [api_Parcel_string__parcel_parcelAt_1.l0]) ?_
        simp only [if_pos (show (i : Int) < (j : Int) by omega), hw, if_pos (show (0 : Int) ≤ (h : Int) by omega), if_pos (show (h : Int) < (l.length : Int) by omega)]
        unfold parcel_parcelAt_1.f strings_Compare.f
        simp only [Option.bind_some]
        have hc' : ¬ Lib.compareBytes ((rdP l (h : Int)).f0).data.toList s.data.toList < 0 := fun q => hb (hc.1 q)
        simp only [if_neg hc']
        exact a3
theorem p_parcelAt (l : List SP) (s : ByteArray) (hl : l.length ≤ 500) (hs : SrtTo l l.length) (a b : ByteArray) (c : Int) : ∃ t : Int, Tends (fun k => parcel_parcelAt.f k a b c l s) (t, (ix l s).isSome) ∧ ∀ j, ix l s = some j → t = (j : Int) := by
  obtain ⟨t, ht, a1, a2, a3⟩ := p_search_l0 l s hl hs l.length 0 l.length (by omega) (by omega) (by omega) (fun p hp => by omega) (fun p h1 h2 => by omega)
  refine ⟨(t : Int), ?_, ?_⟩
  · unfold parcel_parcelAt.f api_Parcel_string__parcel_parcelAt_1.f
    refine Tends.bind a3 ?_
    have e : (if t < l.length then decide (lab l t = s.toList) else false) = (ix l s).isSome := by
      cases hx : ix l s with
      | none =>
        by_cases h : t < l.length
        · rw [if_pos h]
          exact decide_eq_false (ix_none hx t h)
        · rw [if_neg h]
          rfl
      | some j =>
        obtain ⟨h1, h2⟩ := ix_some hx
        have h3 : ¬ j < t := fun q => by
          have := a1 j q
          rw [h2, bl_irrefl] at this
          cases this
        have h4 : t < l.length := by omega
        rw [if_pos h4]
        by_cases h5 : t = j
        · subst h5
          rw [decide_eq_true h2]
          rfl
        · have h6 := hs.lt' (show t < j by omega) h1
          rw [h2, a2 t (Nat.le_refl _) h4] at h6
          cases h6
    simp only [e]
    exact Tends.const _
  · intro j hx
    obtain ⟨h1, h2⟩ := ix_some hx
    have h3 : ¬ j < t := fun q => by
      have := a1 j q
      rw [h2, bl_irrefl] at this
      cases this
    by_cases h5 : t = j
    · rw [h5]
    · have h6 := hs.lt' (show t < j by omega) h1
      rw [h2, a2 t (Nat.le_refl _) (by omega)] at h6
      cases h6
end Go.Proofs.YthgefhnolmloiaaGreatDoor.P3
