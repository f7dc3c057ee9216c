/- CheckAdvice: the program and the reference answer alike: plain laws. -/
import Derived.Test.YthgefhnolmloiaaGreatDoorP3h
namespace Go.Proofs.YthgefhnolmloiaaGreatDoor.P3
open Go Go.Proofs Go.RowKit YthgefhnolmloiaaGreatDoorW.PrintWords

def zP (x : SP) : Prop := x.f0.size ≤ 9223372036854775807 ∧ ∀ i : Nat, i < x.f3.length → zC (rdC x.f3 (i : Int))
/-- what is wrong with a parcel -/
def pv (l : List SP) (i : Nat) : Int :=
  if labelOK (rdP l (i : Int)).f0 = false then 3
  else if i ≠ 0 ∧ Op.bytesLess (lab l (i - 1)) (lab l i) = false then 8
  else if massOK (rdP l (i : Int)).f2.f0 (rdP l (i : Int)).f2.f1 true = true then cFault (rdP l (i : Int)).f3 else 1
/-- the same, its label and order said -/
def pj (x : SP) (b : Bool) : Int := if b = true then 8 else if massOK x.f2.f0 x.f2.f1 true = true then cFault x.f3 else 1
theorem pv_j (l : List SP) (i : Nat) (h : labelOK (rdP l (i : Int)).f0 = true) : pv l i = pj (rdP l (i : Int)) (decide (i ≠ 0) && !(Op.bytesLess (lab l (i - 1)) (lab l i))) := by
  unfold pv pj
  rw [h]
  by_cases h0 : i = 0
  · simp [h0]
  · cases hb : Op.bytesLess (lab l (i - 1)) (lab l i) <;> simp [h0]
def pl (l : List SP) : Nat → Nat → Int
  | 0, _ => nF l
  | m + 1, i => if pv l i = 0 then pl l m (i + 1) else pv l i
theorem pv_zero {l : List SP} {i : Nat} (h : pv l i = 0) : labelOK (rdP l (i : Int)).f0 = true ∧ (i ≠ 0 → Op.bytesLess (lab l (i - 1)) (lab l i) = true) := by
  unfold pv at h
  split at h
  · cases h
  · rename_i h1
    split at h
    · cases h
    · rename_i h2
      refine ⟨by simpa using h1, fun h0 => ?_⟩
      cases hb : Op.bytesLess (lab l (i - 1)) (lab l i) with
      | true => rfl
      | false => exact absurd ⟨h0, hb⟩ h2
theorem SrtTo.succ {l : List SP} {i : Nat} (h : SrtTo l i) (h1 : i ≠ 0 → Op.bytesLess (lab l (i - 1)) (lab l i) = true) : SrtTo l (i + 1) := by
  intro j hj
  by_cases e : j + 1 = i
  · subst e
    exact h1 (by omega)
  · exact h j (by omega)
theorem pl_zero {l : List SP} : ∀ {m i : Nat}, pl l m i = 0 → SrtTo l i → SrtTo l (m + i) ∧ nF l = 0 ∧ ∀ j, i ≤ j → j < m + i → labelOK (rdP l (j : Int)).f0 = true
  | 0, i, h, hs => ⟨by rwa [Nat.zero_add], h, fun j h1 h2 => by omega⟩
  | m + 1, i, h, hs => by
    unfold pl at h
    split at h
    · rename_i h1
      obtain ⟨h2, h3⟩ := pv_zero h1
      obtain ⟨h4, h5, h6⟩ := pl_zero h (hs.succ h3)
      refine ⟨by rwa [show m + 1 + i = m + (i + 1) by omega], h5, fun j h7 h8 => ?_⟩
      by_cases e : j = i
      · rw [e]
        exact h2
      · exact h6 j (by omega) (by omega)
    · rename_i h1
      exact absurd h h1

section
variable {l : List SP}
theorem a_prog_j0 (x : SP) (hz : zP x) (b : Bool) : Tends (fun k => parcel_parcelFault.j0 k b x.f0 x.f1 x.f2.f0 x.f2.f1 x.f3) (pj x b) := by
  refine Tends.step (fun q => by rw [parcel_parcelFault.j0]) ?_
  unfold pj
  cases b with
  | true => exact Tends.const _
  | false =>
    simp only [Bool.false_eq_true, if_false]
    refine Tends.bind (m_Quantity x.f2.f0 x.f2.f1 true) ?_
    by_cases h : massOK x.f2.f0 x.f2.f1 true = true
    · simp only [h, if_true]
      exact Tends.bind (c_progContents x.f3 hz.2) (Tends.const _)
    · simp only [if_neg h]
      exact Tends.const _
theorem a_parcelFault (i : Nat) (hi : i < l.length) (hl : l.length ≤ 500) (hz : zP (rdP l (i : Int))) : Tends (fun k => parcel_parcelFault.f k l (i : Int)) (pv l i) := by
  unfold parcel_parcelFault.f
  simp only [if_pos (show (0 : Int) ≤ (i : Int) by omega), if_pos (show (i : Int) < (l.length : Int) by omega)]
  refine Tends.bind (l_isLabel _ hz.1) ?_
  by_cases h : labelOK (rdP l (i : Int)).f0 = true
  · rw [pv_j l i h]
    simp only [h, if_true]
    by_cases h0 : i = 0
    · subst h0
      simp only [if_neg (show ¬ (((0 : Nat) : Int) > 0) by decide)]
      exact a_prog_j0 _ hz false
    · have w1 : wrap64 ((i : Int) - 1) = ((i - 1 : Nat) : Int) := by rw [w64] <;> omega
      simp only [if_pos (show (i : Int) > 0 by omega), w1, if_pos (show (0 : Int) ≤ ((i - 1 : Nat) : Int) by omega), if_pos (show ((i - 1 : Nat) : Int) < (l.length : Int) by omega), decide_eq_true h0, Bool.true_and]
      exact a_prog_j0 _ hz _
  · have h' : labelOK (rdP l (i : Int)).f0 = false := by simpa using h
    have e : pv l i = 3 := by
      unfold pv
      rw [if_pos h']
    rw [e]
    simp only [h', Bool.false_eq_true, if_false]
    exact Tends.const _
theorem a_prog_l0 (hl : l.length ≤ 500) (hz : ∀ i : Nat, i < l.length → zP (rdP l (i : Int))) (a b : ByteArray) (c : Int) : ∀ (m i : Nat), m + i = l.length → SrtTo l i → Tends (fun k => parcel_CheckAdvice.l0 k (l.length : Int) (i : Int) a b c l) (pl l m i) := by
  intro m
  induction m with
  | zero =>
    intro i hi hs
    refine Tends.step (fun q => by rw [parcel_CheckAdvice.l0]) ?_
    simp only [if_neg (show ¬ (i : Int) < (l.length : Int) by omega)]
    exact Tends.bind (h_nestFault hl (by rwa [show l.length = i by omega]) a b c) (Tends.const _)
  | succ m ih =>
    intro i hi hs
    have w1 : wrap64 ((i : Int) + 1) = ((i + 1 : Nat) : Int) := by rw [w64] <;> omega
    refine Tends.step (fun q => by rw [parcel_CheckAdvice.l0]) ?_
    simp only [if_pos (show (i : Int) < (l.length : Int) by omega), w1]
    refine Tends.bind (a_parcelFault i (by omega) hl (hz i (by omega))) ?_
    unfold pl
    by_cases h : pv l i = 0
    · simp only [if_pos h]
      exact ih (i + 1) (by omega) (hs.succ (pv_zero h).2)
    · simp only [if_neg h]
      exact Tends.const _
theorem a_ref_j2 (hl : l.length ≤ 500) (a b : ByteArray) (c : Int) (i : Nat) (hi : i < l.length) (x : SP) (hz : zP x) (o : Bool) (V : Int) (hV : pj x o = 0 → Tends (fun k => interchangeref10_CheckAdvice.l0 k l (l.length : Int) ((i + 1 : Nat) : Int) a b c l) V) :
    Tends (fun k => interchangeref10_CheckAdvice.j2 k l (l.length : Int) (i : Int) o a b c l x.f0 x.f1 x.f2.f0 x.f2.f1 x.f3) (if pj x o = 0 then V else pj x o) := by
  have w1 : wrap64 ((i : Int) + 1) = ((i + 1 : Nat) : Int) := by rw [w64] <;> omega
  refine Tends.step (fun q => by rw [interchangeref10_CheckAdvice.j2]) ?_
  cases o with
  | true =>
    have e : pj x true = 8 := rfl
    rw [e]
    exact Tends.const _
  | false =>
    simp only [Bool.false_eq_true, if_false, w1]
    refine Tends.bind (m_isMass x.f2.f0 x.f2.f1 false) ?_
    rw [Bool.not_false]
    by_cases h : massOK x.f2.f0 x.f2.f1 true = true
    · have e : pj x false = cFault x.f3 := by
        unfold pj
        rw [if_neg (by simp), if_pos h]
      rw [e] at hV ⊢
      simp only [h, if_true]
      refine Tends.bind (c_refContents x.f3 hz.2) ?_
      by_cases h2 : cFault x.f3 = 0
      · simp only [if_pos h2]
        exact hV h2
      · simp only [if_neg h2]
        exact Tends.const _
    · have e : pj x false = 1 := by
        unfold pj
        rw [if_neg (by simp), if_neg h]
      rw [e]
      simp only [if_neg h]
      exact Tends.const _
theorem a_ref_l0 (hl : l.length ≤ 500) (hz : ∀ i : Nat, i < l.length → zP (rdP l (i : Int))) (a b : ByteArray) (c : Int) : ∀ (m i : Nat), m + i = l.length → SrtTo l i → Tends (fun k => interchangeref10_CheckAdvice.l0 k l (l.length : Int) (i : Int) a b c l) (pl l m i) := by
  intro m
  induction m with
  | zero =>
    intro i hi hs
    refine Tends.step (fun q => by rw [interchangeref10_CheckAdvice.l0]) ?_
    simp only [if_neg (show ¬ (i : Int) < (l.length : Int) by omega)]
    exact Tends.bind (h_nests hl) (Tends.const _)
  | succ m ih =>
    intro i hi hs
    refine Tends.step (fun q => by rw [interchangeref10_CheckAdvice.l0]) ?_
    simp only [if_pos (show (i : Int) < (l.length : Int) by omega), if_pos (show (0 : Int) ≤ (i : Int) by omega)]
    have hzi := hz i (by omega)
    refine Tends.bind (l_refLabel _ hzi.1) ?_
    unfold pl
    by_cases h : labelOK (rdP l (i : Int)).f0 = true
    · have hV : pv l i = 0 → Tends (fun k => interchangeref10_CheckAdvice.l0 k l (l.length : Int) ((i + 1 : Nat) : Int) a b c l) (pl l m (i + 1)) := fun q => ih (i + 1) (by omega) (hs.succ (pv_zero q).2)
      rw [pv_j l i h] at hV ⊢
      simp only [h, if_true]
      by_cases h0 : i = 0
      · subst h0
        simp only [if_neg (show ¬ (((0 : Nat) : Int) > 0) by decide)]
        exact a_ref_j2 hl a b c 0 (by omega) _ hzi false _ hV
      · have w1 : wrap64 ((i : Int) - 1) = ((i - 1 : Nat) : Int) := by rw [w64] <;> omega
        simp only [decide_eq_true h0, Bool.true_and] at hV
        simp only [if_pos (show (i : Int) > 0 by omega), w1, if_pos (show (0 : Int) ≤ ((i - 1 : Nat) : Int) by omega), if_pos (show ((i - 1 : Nat) : Int) < (l.length : Int) by omega), decide_eq_true h0, Bool.true_and]
        exact a_ref_j2 hl a b c i (by omega) _ hzi _ _ hV
    · have h' : labelOK (rdP l (i : Int)).f0 = false := by simpa using h
      have e : pv l i = 3 := by
        unfold pv
        rw [if_pos h']
      rw [e]
      simp only [h', Bool.false_eq_true, if_false, show ¬ (3 : Int) = 0 by omega]
      exact Tends.const _
/-- what is wrong with an advice -/
def chk (a b : ByteArray) (c : Int) (l : List SP) : Int := if (nameOK a && nameOK b) = false then 5 else if dayOK c = false then 1 else if 500 < l.length then 2 else pl l l.length 0
/-- an advice that can be -/
structure Zd (a b : ByteArray) (l : List SP) : Prop where
  a : a.size ≤ 9223372036854775807
  b : b.size ≤ 9223372036854775807
  l : ∀ i : Nat, i < l.length → zP (rdP l (i : Int))
theorem SrtTo.zero : SrtTo l 0 := fun j hj => by omega
theorem a_prog_j (a b : ByteArray) (c : Int) (hz : Zd a b l) (o : Bool) : Tends (fun k => parcel_CheckAdvice.j0 k o a b c l) (if o = true then 5 else if dayOK c = false then 1 else if 500 < l.length then 2 else pl l l.length 0) := by
  refine Tends.step (fun q => by rw [parcel_CheckAdvice.j0]) ?_
  cases o with
  | true => exact Tends.const _
  | false =>
    simp only [Bool.false_eq_true, if_false, l_kitIsDay, Option.bind_some]
    cases hd : dayOK c with
    | false => exact Tends.const _
    | true =>
      simp only [if_true, Bool.true_eq_false, if_false]
      by_cases h : 500 < l.length
      · simp only [if_pos h, if_pos (show (l.length : Int) > 500 by omega)]
        exact Tends.const _
      · simp only [if_neg h, if_neg (show ¬ (l.length : Int) > 500 by omega)]
        exact a_prog_l0 (by omega) hz.l a b c l.length 0 rfl SrtTo.zero
theorem a_ref_j (a b : ByteArray) (c : Int) (hz : Zd a b l) (o : Bool) : Tends (fun k => interchangeref10_CheckAdvice.j0 k o a b c l) (if o = true then 5 else if dayOK c = false then 1 else if 500 < l.length then 2 else pl l l.length 0) := by
  refine Tends.step (fun q => by rw [interchangeref10_CheckAdvice.j0]) ?_
  cases o with
  | true => exact Tends.const _
  | false =>
    simp only [Bool.false_eq_true, if_false, l_IsDay, Option.bind_some]
    cases hd : dayOK c with
    | false => exact Tends.const _
    | true =>
      simp only [if_true, Bool.true_eq_false, if_false]
      by_cases h : 500 < l.length
      · simp only [if_pos h, if_pos (show (l.length : Int) > 500 by omega)]
        exact Tends.const _
      · simp only [if_neg h, if_neg (show ¬ (l.length : Int) > 500 by omega)]
        exact a_ref_l0 (by omega) hz.l a b c l.length 0 rfl SrtTo.zero
theorem a_prog (a b : ByteArray) (c : Int) (hz : Zd a b l) : Tends (fun k => parcel_CheckAdvice.f k a b c l) (chk a b c l) := by
  unfold parcel_CheckAdvice.f chk
  simp only [n_kitIsName _ hz.a, n_kitIsName _ hz.b, Option.bind_some]
  cases ha : nameOK a with
  | false => exact a_prog_j a b c hz true
  | true =>
    simp only [if_true, Bool.true_and]
    have h := a_prog_j a b c hz (!nameOK b)
    cases hb : nameOK b with
    | false => rw [hb] at h; exact h
    | true => rw [hb] at h; exact h
theorem a_ref (a b : ByteArray) (c : Int) (hz : Zd a b l) : Tends (fun k => interchangeref10_CheckAdvice.f k a b c l) (chk a b c l) := by
  unfold interchangeref10_CheckAdvice.f chk
  refine Tends.bind (n_IsName _ hz.a) ?_
  cases ha : nameOK a with
  | false => exact a_ref_j a b c hz true
  | true =>
    simp only [if_true, Bool.true_and]
    refine Tends.bind (n_IsName _ hz.b) ?_
    have h := a_ref_j a b c hz (!nameOK b)
    cases hb : nameOK b with
    | false => rw [hb] at h; exact h
    | true => rw [hb] at h; exact h
/-- what an advice is with which nothing is wrong -/
structure Good (l : List SP) : Prop where
  len : l.length ≤ 500
  srt : SrtTo l l.length
  cl : Cl l
  lo : ∀ j, j < l.length → loN (nx l) j l.length j = false
  lab : ∀ j, j < l.length → labelOK (rdP l (j : Int)).f0 = true
theorem chk_zero {a b : ByteArray} {c : Int} (h : chk a b c l = 0) : Good l := by
  unfold chk at h
  split at h
  · cases h
  · split at h
    · cases h
    · split at h
      · cases h
      · rename_i h3
        obtain ⟨h4, h5, h6⟩ := pl_zero h SrtTo.zero
        rw [Nat.add_zero] at h4
        unfold nF nF9 at h5
        split at h5
        · cases h5
        · rename_i h7
          have h7 : anyF (bad9 l) l.length 0 = false := by simpa using h7
          unfold nF17 at h5
          split at h5
          · cases h5
          · rename_i h8
            have h8 : anyF (bad17 l) l.length 0 = false := by simpa using h8
            exact ⟨by omega, h4, Cl_of h7, lo_of h8, fun j hj => h6 j (by omega) (by omega)⟩
end
end Go.Proofs.YthgefhnolmloiaaGreatDoor.P3
