/- How parcels lie in one another: what the program's and the reference's walks answer: plain laws. -/
import Derived.Test.YthgefhnolmloiaaGreatDoorP3g
import Derived.Test.YthgefhnolmloiaaGreatDoorP3n
namespace Go.Proofs.YthgefhnolmloiaaGreatDoor.P3
open Go Go.Proofs Go.RowKit YthgefhnolmloiaaGreatDoorW.PrintWords

/-- the number of the parcel that one is in -/
def nx (l : List SP) (i : Nat) : Option Nat := if (inn l i).toList = [] then none else ix l (inn l i)
theorem nx_lt {l : List SP} (k a : Nat) (h : nx l k = some a) : a < l.length := by
  unfold nx at h
  split at h
  · cases h
  · exact (ix_some h).1
def cast (r : List Nat × Bool) : List Int × Bool := (r.1.map (fun n : Nat => (n : Int)), r.2)
/-- each parcel that is said to be around one is there -/
def Cl (l : List SP) : Prop := ∀ i, i < l.length → (inn l i).toList ≠ [] → (ix l (inn l i)).isSome = true
theorem mem_cast (out : List Nat) (a : Nat) : (a : Int) ∈ out.map (fun n : Nat => (n : Int)) ↔ a ∈ out := by
  simp only [List.mem_map]
  constructor
  · rintro ⟨b, hb, e⟩
    have : b = a := by omega
    exact this ▸ hb
  · intro h
    exact ⟨a, h, rfl⟩
theorem h_around_l0 (l : List SP) (hl : l.length ≤ 500) (hs : SrtTo l l.length) (hc : Cl l) (a b : ByteArray) (c : Int) (i : Nat) : ∀ (f k : Nat) (out : List Nat), k < l.length → out.Nodup → (∀ x ∈ out, x < l.length) → l.length + 1 ≤ f + out.length →
    Tends (fun q => parcel_around.l0 q (i : Int) (out.map (fun n : Nat => (n : Int))) (k : Int) a b c l) (cast (arN (nx l) i f k out)) := by
  intro f
  induction f with
  | zero =>
    intro k out hk hnd hlt hf
    have := nd_len _ _ hnd hlt
    omega
  | succ f ih =>
    intro k out hk hnd hlt hf
    have hlen := nd_len _ _ hnd hlt
    refine Tends.step (fun q => by rw [parcel_around.l0]) ?_
    simp only [if_pos (show (0 : Int) ≤ (k : Int) by omega), if_pos (show (k : Int) < (l.length : Int) by omega)]
    unfold arN
    by_cases h0 : (inn l k).toList = []
    · have h0' : ((rdP l (k : Int)).f1).toList = ([] : List UInt8) := h0
      have e : nx l k = none := by
        unfold nx
        rw [if_pos h0]
      simp only [if_pos h0', e]
      exact Tends.const _
    · have h0' : ¬ ((rdP l (k : Int)).f1).toList = ([] : List UInt8) := h0
      obtain ⟨j, hj⟩ := Option.isSome_iff_exists.1 (hc k hk h0)
      have e : nx l k = some j := by
        unfold nx
        rw [if_neg h0, hj]
      obtain ⟨t, ht, ht2⟩ := p_parcelAt l (inn l k) hl hs a b c
      obtain rfl := ht2 j hj
      simp only [if_neg h0', e]
      refine Tends.bind ht ?_
      by_cases h1 : j = i
      · simp only [if_pos h1, if_pos (show (j : Int) = (i : Int) by omega)]
        exact Tends.const _
      · simp only [if_neg h1, if_neg (show ¬ (j : Int) = (i : Int) by omega)]
        refine Tends.bind (l_Contains _ _ (by rw [List.length_map]; omega)) ?_
        by_cases h2 : j ∈ out
        · simp only [if_pos h2, decide_eq_true ((mem_cast out j).2 h2), if_true]
          exact Tends.const _
        · simp only [if_neg h2, decide_eq_false (fun q => h2 ((mem_cast out j).1 q)), Bool.false_eq_true, if_false, List.length_map, if_pos (show out.length < 17592186044416 by omega)]
          have := ih j (out ++ [j]) (ix_some hj).1 (by
            rw [List.nodup_append]
            refine ⟨hnd, by simp, ?_⟩
            intro x hx y hy
            rw [List.mem_singleton] at hy
            subst hy
            intro e
            exact h2 (e ▸ hx)) (by
            intro x hx
            rcases List.mem_append.1 hx with hx | hx
            · exact hlt x hx
            · rw [List.mem_singleton] at hx
              rw [hx]
              exact (ix_some hj).1) (by simp; omega)
          rw [List.map_append] at this
          exact this
theorem h_around (l : List SP) (hl : l.length ≤ 500) (hs : SrtTo l l.length) (hc : Cl l) (a b : ByteArray) (c : Int) (i : Nat) (hi : i < l.length) : Tends (fun q => parcel_around.f q a b c l (i : Int)) (cast (arO (nx l) l.length i)) := by
  unfold parcel_around.f
  exact h_around_l0 l hl hs hc a b c i (l.length + 1) i [] hi (by simp) (by simp) (by simp)
theorem h_up_l0 (l : List SP) (hl : l.length ≤ 500) (hc : Cl l) : ∀ (f k : Nat) (out : List Nat), k < l.length → out.length ≤ l.length + 1 → l.length + 2 ≤ f + out.length →
    Tends (fun q => interchangeref10_up.l0 q l (k : Int) (out.map (fun n : Nat => (n : Int)))) (cast (upN (nx l) l.length f k out)) := by
  intro f
  induction f with
  | zero =>
    intro k out hk ho hf
    omega
  | succ f ih =>
    intro k out hk ho hf
    refine Tends.step (fun q => by rw [interchangeref10_up.l0]) ?_
    simp only [if_pos (show (0 : Int) ≤ (k : Int) by omega), if_pos (show (k : Int) < (l.length : Int) by omega)]
    unfold upN
    by_cases h0 : (inn l k).toList = []
    · have h0' : ((rdP l (k : Int)).f1).toList = ([] : List UInt8) := h0
      have e : nx l k = none := by
        unfold nx
        rw [if_pos h0]
      simp only [if_pos h0', e]
      exact Tends.const _
    · have h0' : ¬ ((rdP l (k : Int)).f1).toList = ([] : List UInt8) := h0
      obtain ⟨j, hj⟩ := Option.isSome_iff_exists.1 (hc k hk h0)
      have e : nx l k = some j := by
        unfold nx
        rw [if_neg h0, hj]
      have hp := p_parcelOf l (inn l k) hl
      rw [hj] at hp
      have hp : Tends (fun q => interchangeref10_parcelOf.f q l ((rdP l (k : Int)).f1)) (j : Int) := hp
      simp only [if_neg h0', e]
      refine Tends.bind hp ?_
      simp only [List.length_map]
      by_cases h1 : l.length < out.length
      · simp only [if_pos h1, if_pos (show (out.length : Int) > (l.length : Int) by omega)]
        exact Tends.const _
      · simp only [if_neg h1, if_neg (show ¬ (out.length : Int) > (l.length : Int) by omega), if_pos (show out.length < 17592186044416 by omega)]
        have := ih j (out ++ [j]) (ix_some hj).1 (by simp; omega) (by simp; omega)
        rw [List.map_append] at this
        exact this
theorem h_up (l : List SP) (hl : l.length ≤ 500) (hc : Cl l) (i : Nat) (hi : i < l.length) : Tends (fun q => interchangeref10_up.f q l (i : Int)) (cast (upN (nx l) l.length (l.length + 1) i [i])) := by
  unfold interchangeref10_up.f
  exact h_up_l0 l hl hc (l.length + 1) i [i] hi (by simp) (by simp)
theorem h_loops_l0 (l : List SP) (hl : l.length ≤ 500) (hc : Cl l) (i : Nat) : ∀ (m k d : Nat), k < l.length → m + d = l.length →
    Tends (fun q => interchangeref10_loops.l0 q l (i : Int) (k : Int) (l.length : Int) (d : Int)) (loN (nx l) i m k) := by
  intro m
  induction m with
  | zero =>
    intro k d hk hd
    refine Tends.step (fun q => by rw [interchangeref10_loops.l0]) ?_
    simp only [if_neg (show ¬ (d : Int) < (l.length : Int) by omega)]
    exact Tends.const _
  | succ m ih =>
    intro k d hk hd
    have w1 : wrap64 ((d : Int) + 1) = ((d + 1 : Nat) : Int) := by rw [w64] <;> omega
    refine Tends.step (fun q => by rw [interchangeref10_loops.l0]) ?_
    simp only [if_pos (show (d : Int) < (l.length : Int) by omega), if_pos (show (0 : Int) ≤ (k : Int) by omega), if_pos (show (k : Int) < (l.length : Int) by omega), w1]
    unfold loN
    by_cases h0 : (inn l k).toList = []
    · have h0' : ((rdP l (k : Int)).f1).toList = ([] : List UInt8) := h0
      have e : nx l k = none := by
        unfold nx
        rw [if_pos h0]
      simp only [if_pos h0', e]
      exact Tends.const _
    · have h0' : ¬ ((rdP l (k : Int)).f1).toList = ([] : List UInt8) := h0
      obtain ⟨j, hj⟩ := Option.isSome_iff_exists.1 (hc k hk h0)
      have e : nx l k = some j := by
        unfold nx
        rw [if_neg h0, hj]
      have hp := p_parcelOf l (inn l k) hl
      rw [hj] at hp
      have hp : Tends (fun q => interchangeref10_parcelOf.f q l ((rdP l (k : Int)).f1)) (j : Int) := hp
      simp only [if_neg h0', e]
      refine Tends.bind hp ?_
      by_cases h1 : j = i
      · simp only [if_pos h1, if_pos (show (j : Int) = (i : Int) by omega)]
        exact Tends.const _
      · simp only [if_neg h1, if_neg (show ¬ (j : Int) = (i : Int) by omega)]
        exact ih j (d + 1) (ix_some hj).1 (by omega)
theorem h_loops (l : List SP) (hl : l.length ≤ 500) (hc : Cl l) (i : Nat) (hi : i < l.length) : Tends (fun q => interchangeref10_loops.f q l (i : Int)) (loN (nx l) i l.length i) := by
  unfold interchangeref10_loops.f
  exact h_loops_l0 l hl hc i l.length i 0 hi rfl

/-! ### what is wrong with it -/
def anyF (p : Nat → Bool) : Nat → Nat → Bool
  | 0, _ => false
  | m + 1, i => p i || anyF p m (i + 1)
theorem anyF_false {p : Nat → Bool} : ∀ {m i : Nat}, anyF p m i = false → ∀ j, i ≤ j → j < m + i → p j = false
  | 0, i, h, j, h1, h2 => by omega
  | m + 1, i, h, j, h1, h2 => by
    unfold anyF at h
    rw [Bool.or_eq_false_iff] at h
    by_cases e : j = i
    · rw [e]
      exact h.1
    · exact anyF_false h.2 j (by omega) (by omega)
def bad9 (l : List SP) (i : Nat) : Bool := decide ((inn l i).toList ≠ []) && (ix l (inn l i)).isNone
def bad17 (l : List SP) (i : Nat) : Bool := loN (nx l) i l.length i
def bad2 (l : List SP) (i : Nat) : Bool := decide (5 < (arO (nx l) l.length i).1.length)
def nF2 (l : List SP) (m i : Nat) : Int := if anyF (bad2 l) m i = true then 2 else 0
def nF17 (l : List SP) (m i : Nat) : Int := if anyF (bad17 l) m i = true then 17 else nF2 l l.length 0
def nF9 (l : List SP) (m i : Nat) : Int := if anyF (bad9 l) m i = true then 9 else nF17 l l.length 0
def nF (l : List SP) : Int := nF9 l l.length 0
theorem nF2_succ (l : List SP) (m i : Nat) : nF2 l (m + 1) i = if bad2 l i = true then 2 else nF2 l m (i + 1) := by
  unfold nF2
  rw [anyF]
  cases bad2 l i <;> simp
theorem nF17_succ (l : List SP) (m i : Nat) : nF17 l (m + 1) i = if bad17 l i = true then 17 else nF17 l m (i + 1) := by
  unfold nF17
  rw [anyF]
  cases bad17 l i <;> simp
theorem nF9_succ (l : List SP) (m i : Nat) : nF9 l (m + 1) i = if bad9 l i = true then 9 else nF9 l m (i + 1) := by
  unfold nF9
  rw [anyF]
  cases bad9 l i <;> simp
theorem Cl_of {l : List SP} (h : anyF (bad9 l) l.length 0 = false) : Cl l := by
  intro i hi h1
  have h2 := anyF_false h i (by omega) (by omega)
  unfold bad9 at h2
  rw [decide_eq_true h1, Bool.true_and] at h2
  cases hx : ix l (inn l i) with
  | none =>
    rw [hx] at h2
    cases h2
  | some j => rfl
theorem lo_of {l : List SP} (h : anyF (bad17 l) l.length 0 = false) (j : Nat) (hj : j < l.length) : loN (nx l) j l.length j = false := anyF_false h j (by omega) (by omega)

section
variable {l : List SP}
theorem h_prog_l2 (hl : l.length ≤ 500) (hs : SrtTo l l.length) (hc : Cl l) (a b : ByteArray) (c : Int) : ∀ (m i : Nat), m + i = l.length → Tends (fun k => parcel_nestFault.l2 k (l.length : Int) (i : Int) a b c l) (nF2 l m i) := by
  intro m
  induction m with
  | zero =>
    intro i hi
    refine Tends.step (fun q => by rw [parcel_nestFault.l2]) ?_
    simp only [if_neg (show ¬ (i : Int) < (l.length : Int) by omega)]
    exact Tends.const _
  | succ m ih =>
    intro i hi
    have w1 : wrap64 ((i : Int) + 1) = ((i + 1 : Nat) : Int) := by rw [w64] <;> omega
    refine Tends.step (fun q => by rw [parcel_nestFault.l2]) ?_
    simp only [if_pos (show (i : Int) < (l.length : Int) by omega), w1]
    refine Tends.bind (h_around l hl hs hc a b c i (by omega)) ?_
    have hI := ih (i + 1) (by omega)
    rw [nF2_succ]
    unfold bad2
    simp only [cast, List.length_map]
    by_cases h : 5 < (arO (nx l) l.length i).1.length
    · simp only [if_pos (show ((arO (nx l) l.length i).1.length : Int) > 5 by omega), decide_eq_true h, if_true]
      exact Tends.const _
    · simp only [if_neg (show ¬ ((arO (nx l) l.length i).1.length : Int) > 5 by omega), decide_eq_false h, Bool.false_eq_true, if_false]
      exact hI
theorem h_prog_l1 (hl : l.length ≤ 500) (hs : SrtTo l l.length) (hc : Cl l) (a b : ByteArray) (c : Int) : ∀ (m i : Nat), m + i = l.length → Tends (fun k => parcel_nestFault.l1 k (l.length : Int) (i : Int) a b c l) (nF17 l m i) := by
  intro m
  induction m with
  | zero =>
    intro i hi
    refine Tends.step (fun q => by rw [parcel_nestFault.l1]) ?_
    simp only [if_neg (show ¬ (i : Int) < (l.length : Int) by omega)]
    exact h_prog_l2 hl hs hc a b c l.length 0 rfl
  | succ m ih =>
    intro i hi
    have w1 : wrap64 ((i : Int) + 1) = ((i + 1 : Nat) : Int) := by rw [w64] <;> omega
    refine Tends.step (fun q => by rw [parcel_nestFault.l1]) ?_
    simp only [if_pos (show (i : Int) < (l.length : Int) by omega), w1]
    refine Tends.bind (h_around l hl hs hc a b c i (by omega)) ?_
    have hI := ih (i + 1) (by omega)
    have e := arO_lo (nxt := nx l) (n := l.length) nx_lt (show i < l.length by omega)
    rw [nF17_succ]
    unfold bad17
    simp only [cast, e]
    cases h : loN (nx l) i l.length i with
    | true => exact Tends.const _
    | false =>
      simp only [Bool.not_false, if_true, Bool.false_eq_true, if_false]
      exact hI
theorem h_prog_l0 (hl : l.length ≤ 500) (hs : SrtTo l l.length) (a b : ByteArray) (c : Int) : ∀ (m i : Nat), m + i = l.length → (∀ j, j < i → bad9 l j = false) → Tends (fun k => parcel_nestFault.l0 k l (l.length : Int) (i : Int) a b c l) (nF9 l m i) := by
  intro m
  induction m with
  | zero =>
    intro i hi hb
    refine Tends.step (fun q => by rw [parcel_nestFault.l0]) ?_
    simp only [if_neg (show ¬ (i : Int) < (l.length : Int) by omega)]
    refine h_prog_l1 hl hs ?_ a b c l.length 0 rfl
    intro j hj h1
    have h2 := hb j (by omega)
    unfold bad9 at h2
    rw [decide_eq_true h1, Bool.true_and] at h2
    cases hx : ix l (inn l j) with
    | none =>
      rw [hx] at h2
      cases h2
    | some _ => rfl
  | succ m ih =>
    intro i hi hb
    have w1 : wrap64 ((i : Int) + 1) = ((i + 1 : Nat) : Int) := by rw [w64] <;> omega
    refine Tends.step (fun q => by rw [parcel_nestFault.l0]) ?_
    simp only [if_pos (show (i : Int) < (l.length : Int) by omega), if_pos (show (0 : Int) ≤ (i : Int) by omega), w1]
    obtain ⟨t, ht, _⟩ := p_parcelAt l (inn l i) hl hs a b c
    refine Tends.bind ht ?_
    have hI := fun h : bad9 l i = false => ih (i + 1) (by omega) (fun j hj => by
      by_cases e : j = i
      · subst e
        exact h
      · exact hb j (by omega))
    rw [nF9_succ]
    by_cases h0 : (inn l i).toList = []
    · have h0' : ((rdP l (i : Int)).f1).toList = ([] : List UInt8) := h0
      have e : bad9 l i = false := by
        unfold bad9
        simp [h0]
      simp only [if_pos h0', e, Bool.false_eq_true, if_false]
      exact hI e
    · have h0' : ¬ ((rdP l (i : Int)).f1).toList = ([] : List UInt8) := h0
      have e : bad9 l i = (ix l (inn l i)).isNone := by
        unfold bad9
        rw [decide_eq_true h0, Bool.true_and]
      simp only [if_neg h0', e]
      cases hx : ix l (inn l i) with
      | none => exact Tends.const _
      | some j =>
        simp only [Option.isSome_some, if_true, Option.isNone_some, Bool.false_eq_true, if_false]
        exact hI (by rw [e, hx]; rfl)
theorem h_nestFault (hl : l.length ≤ 500) (hs : SrtTo l l.length) (a b : ByteArray) (c : Int) : Tends (fun k => parcel_nestFault.f k a b c l) (nF l) := h_prog_l0 hl hs a b c l.length 0 rfl (fun j hj => by omega)

theorem h_ref_l2 (hl : l.length ≤ 500) (hc : Cl l) (hlo : ∀ j, j < l.length → loN (nx l) j l.length j = false) : ∀ (m i : Nat), m + i = l.length → Tends (fun k => interchangeref10_nests.l2 k l (l.length : Int) (i : Int)) (nF2 l m i) := by
  intro m
  induction m with
  | zero =>
    intro i hi
    refine Tends.step (fun q => by rw [interchangeref10_nests.l2]) ?_
    simp only [if_neg (show ¬ (i : Int) < (l.length : Int) by omega)]
    exact Tends.const _
  | succ m ih =>
    intro i hi
    have w1 : wrap64 ((i : Int) + 1) = ((i + 1 : Nat) : Int) := by rw [w64] <;> omega
    refine Tends.step (fun q => by rw [interchangeref10_nests.l2]) ?_
    simp only [if_pos (show (i : Int) < (l.length : Int) by omega), w1]
    have hu := h_up l hl hc i (by omega)
    rw [arO_up nx_lt hlo (by omega)] at hu
    refine Tends.bind hu ?_
    have hI := ih (i + 1) (by omega)
    rw [nF2_succ]
    unfold bad2
    simp only [cast, List.length_map, List.length_cons, if_true]
    have w2 : wrap64 ((((arO (nx l) l.length i).1.length + 1 : Nat) : Int) - 1) = ((arO (nx l) l.length i).1.length : Int) := by
      have hb := nd_len l.length (arO (nx l) l.length i).1 (arO_nd _ _ _) (fun x hx => (arO_mem nx_lt x hx).1)
      rw [w64] <;> omega
    rw [w2]
    by_cases h : 5 < (arO (nx l) l.length i).1.length
    · simp only [if_pos (show ((arO (nx l) l.length i).1.length : Int) > 5 by omega), decide_eq_true h, if_true]
      exact Tends.const _
    · simp only [if_neg (show ¬ ((arO (nx l) l.length i).1.length : Int) > 5 by omega), decide_eq_false h, Bool.false_eq_true, if_false]
      exact hI
theorem h_ref_l1 (hl : l.length ≤ 500) (hc : Cl l) : ∀ (m i : Nat), m + i = l.length → (∀ j, j < i → bad17 l j = false) → Tends (fun k => interchangeref10_nests.l1 k l (l.length : Int) (i : Int)) (nF17 l m i) := by
  intro m
  induction m with
  | zero =>
    intro i hi hb
    refine Tends.step (fun q => by rw [interchangeref10_nests.l1]) ?_
    simp only [if_neg (show ¬ (i : Int) < (l.length : Int) by omega)]
    exact h_ref_l2 hl hc (fun j hj => hb j (by omega)) l.length 0 rfl
  | succ m ih =>
    intro i hi hb
    have w1 : wrap64 ((i : Int) + 1) = ((i + 1 : Nat) : Int) := by rw [w64] <;> omega
    refine Tends.step (fun q => by rw [interchangeref10_nests.l1]) ?_
    simp only [if_pos (show (i : Int) < (l.length : Int) by omega), w1]
    refine Tends.bind (h_loops l hl hc i (by omega)) ?_
    have hI := fun h : bad17 l i = false => ih (i + 1) (by omega) (fun j hj => by
      by_cases e : j = i
      · subst e
        exact h
      · exact hb j (by omega))
    rw [nF17_succ]
    cases h : loN (nx l) i l.length i with
    | true =>
      have e : bad17 l i = true := h
      simp only [if_true, e]
      exact Tends.const _
    | false =>
      have e : bad17 l i = false := h
      simp only [Bool.false_eq_true, if_false, e]
      exact hI e
theorem h_ref_l0 (hl : l.length ≤ 500) : ∀ (m i : Nat), m + i = l.length → (∀ j, j < i → bad9 l j = false) → Tends (fun k => interchangeref10_nests.l0 k l l (l.length : Int) (i : Int)) (nF9 l m i) := by
  intro m
  induction m with
  | zero =>
    intro i hi hb
    refine Tends.step (fun q => by rw [interchangeref10_nests.l0]) ?_
    simp only [if_neg (show ¬ (i : Int) < (l.length : Int) by omega)]
    refine h_ref_l1 hl ?_ l.length 0 rfl (fun j hj => by omega)
    intro j hj h1
    have h2 := hb j (by omega)
    unfold bad9 at h2
    rw [decide_eq_true h1, Bool.true_and] at h2
    cases hx : ix l (inn l j) with
    | none =>
      rw [hx] at h2
      cases h2
    | some _ => rfl
  | succ m ih =>
    intro i hi hb
    have w1 : wrap64 ((i : Int) + 1) = ((i + 1 : Nat) : Int) := by rw [w64] <;> omega
    refine Tends.step (fun q => by rw [interchangeref10_nests.l0]) ?_
    simp only [if_pos (show (i : Int) < (l.length : Int) by omega), if_pos (show (0 : Int) ≤ (i : Int) by omega), w1]
    have hI := fun h : bad9 l i = false => ih (i + 1) (by omega) (fun j hj => by
      by_cases e : j = i
      · subst e
        exact h
      · exact hb j (by omega))
    rw [nF9_succ]
    by_cases h0 : (inn l i).toList = []
    · have h0' : ((rdP l (i : Int)).f1).toList = ([] : List UInt8) := h0
      have e : bad9 l i = false := by
        unfold bad9
        simp [h0]
      simp only [if_pos h0', e, Bool.false_eq_true, if_false]
      exact hI e
    · have h0' : ¬ ((rdP l (i : Int)).f1).toList = ([] : List UInt8) := h0
      have e : bad9 l i = (ix l (inn l i)).isNone := by
        unfold bad9
        rw [decide_eq_true h0, Bool.true_and]
      simp only [if_neg h0', e]
      refine Tends.bind (p_parcelOf l (inn l i) hl) ?_
      cases hx : ix l (inn l i) with
      | none => exact Tends.const _
      | some j =>
        simp only [ixI, if_neg (show ¬ (j : Int) < 0 by omega), Option.isNone_some, Bool.false_eq_true, if_false]
        exact hI (by rw [e, hx]; rfl)
theorem h_nests (hl : l.length ≤ 500) : Tends (fun k => interchangeref10_nests.f k l) (nF l) := h_ref_l0 hl l.length 0 rfl (fun j hj => by omega)
end
end Go.Proofs.YthgefhnolmloiaaGreatDoor.P3
