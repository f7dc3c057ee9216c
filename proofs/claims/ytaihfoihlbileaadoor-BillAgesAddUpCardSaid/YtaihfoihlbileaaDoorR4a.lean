/- What a printed function answers from some number of rounds on, and the digits of a number: plain laws, no program in sight. -/
import Derived.Test.YtaihfoihlbileaaDoorR4x
namespace Go.Proofs.YtaihfoihlbileaaDoor.R4
open Go Go.Proofs Go.RowKit YtaihfoihlbileaaDoorW.PrintWords

/-- from some number of rounds on -/
def Tends {α : Type} (F : Nat → Option α) (v : α) : Prop := ∃ k0, ∀ k, k0 ≤ k → F k = some v
theorem Tends.const {α : Type} (v : α) : Tends (fun _ => some v) v := ⟨0, fun _ _ => rfl⟩
theorem Tends.of {α : Type} {F : Nat → Option α} {v : α} (h : ∀ k, F k = some v) : Tends F v := ⟨0, fun k _ => h k⟩
theorem Tends.cong {α : Type} {F G : Nat → Option α} {v : α} (h : ∀ k, F k = G k) (hG : Tends G v) : Tends F v := by
  obtain ⟨k0, h0⟩ := hG
  exact ⟨k0, fun k hk => (h k).trans (h0 k hk)⟩
theorem Tends.bind {α β : Type} {F : Nat → Option α} {G : Nat → α → Option β} {a : α} {b : β} (hF : Tends F a) (hG : Tends (fun k => G k a) b) : Tends (fun k => (F k).bind (G k)) b := by
  obtain ⟨k0, h0⟩ := hF
  obtain ⟨k1, h1⟩ := hG
  refine ⟨max k0 k1, fun k hk => ?_⟩
  show (F k).bind (G k) = some b
  rw [h0 k (by omega)]
  exact h1 k (by omega)
theorem Tends.step {α : Type} {F B : Nat → Option α} {v : α} (h : ∀ k, F (k + 1) = B k) (hB : Tends B v) : Tends F v := by
  obtain ⟨k0, h0⟩ := hB
  refine ⟨k0 + 1, fun k hk => ?_⟩
  obtain ⟨j, rfl⟩ : ∃ j, k = j + 1 := ⟨k - 1, by omega⟩
  rw [h j]
  exact h0 j (by omega)
theorem Tends.get {α : Type} {F : Nat → Option α} {v : α} (h : Tends F v) : ∃ k, F k = some v := by
  obtain ⟨k0, h0⟩ := h
  exact ⟨k0, h0 k0 (Nat.le_refl _)⟩
theorem Tends.uniq {α : Type} {F : Nat → Option α} {v v' : α} (h : Tends F v) (h' : Tends F v') : v = v' := by
  obtain ⟨k0, h0⟩ := h
  obtain ⟨k1, h1⟩ := h'
  have a := h0 (max k0 k1) (by omega)
  have b := h1 (max k0 k1) (by omega)
  rw [a] at b
  exact Option.some.inj b

theorem w64 {n : Int} (h0 : -9223372036854775808 ≤ n) (h1 : n ≤ 9223372036854775807) : wrap64 n = n := by unfold wrap64; omega

/-! ### digits to the base of a million -/
def vl : List Int → Int
  | [] => 0
  | d :: r => d + 1000000 * vl r
def Dg (l : List Int) : Prop := ∀ d ∈ l, 0 ≤ d ∧ d < 1000000
def dgs (n : Nat) : List Int := if h : n = 0 then [] else ((n % 1000000 : Nat) : Int) :: dgs (n / 1000000)
termination_by n
decreasing_by omega
theorem dgs_zero : dgs 0 = [] := by unfold dgs; simp
theorem dgs_pos {n : Nat} (h : n ≠ 0) : dgs n = ((n % 1000000 : Nat) : Int) :: dgs (n / 1000000) := by
  rw [dgs]
  simp [h]
theorem Dg.nil : Dg [] := fun d h => by cases h
theorem Dg.cons {d : Int} {l : List Int} (h0 : 0 ≤ d) (h1 : d < 1000000) (h : Dg l) : Dg (d :: l) := by
  intro x hx
  rcases List.mem_cons.1 hx with rfl | hx
  · exact ⟨h0, h1⟩
  · exact h x hx
theorem Dg.head {d : Int} {l : List Int} (h : Dg (d :: l)) : 0 ≤ d ∧ d < 1000000 := h d (List.mem_cons_self ..)
theorem Dg.tail {d : Int} {l : List Int} (h : Dg (d :: l)) : Dg l := fun x hx => h x (List.mem_cons_of_mem _ hx)
theorem Dg.append {a b : List Int} (ha : Dg a) (hb : Dg b) : Dg (a ++ b) := fun x hx => by
  rcases List.mem_append.1 hx with h | h
  · exact ha x h
  · exact hb x h
theorem Dg.drop {l : List Int} (h : Dg l) (n : Nat) : Dg (l.drop n) := fun x hx => h x (List.mem_of_mem_drop hx)
theorem vl_nonneg : ∀ {l : List Int}, Dg l → 0 ≤ vl l
  | [], _ => Int.le_refl 0
  | d :: r, h => by
    have h1 := vl_nonneg h.tail
    have h2 := h.head
    show 0 ≤ d + 1000000 * vl r
    omega
theorem dgs_vl_cons {d : Int} {m : Nat} (h0 : 0 ≤ d) (h1 : d < 1000000) (h : d ≠ 0 ∨ m ≠ 0) : dgs (d + 1000000 * (m : Int)).toNat = d :: dgs m := by
  have e : (d + 1000000 * (m : Int)).toNat = d.toNat + 1000000 * m := by omega
  rw [e, dgs_pos (by omega)]
  have e1 : (d.toNat + 1000000 * m) % 1000000 = d.toNat := by omega
  have e2 : (d.toNat + 1000000 * m) / 1000000 = m := by omega
  rw [e1, e2]
  congr 1
  omega
/-- without the zeros at the end -/
def tr : List Int → List Int
  | [] => []
  | d :: r => if tr r = [] ∧ d = 0 then [] else d :: tr r
theorem tr_dgs : ∀ {l : List Int}, Dg l → tr l = dgs (vl l).toNat
  | [], _ => by simp [tr, vl, dgs_zero]
  | d :: r, h => by
    have ih := tr_dgs h.tail
    have hv := vl_nonneg h.tail
    have hd := h.head
    show (if tr r = [] ∧ d = 0 then [] else d :: tr r) = dgs (d + 1000000 * vl r).toNat
    rw [ih]
    obtain ⟨m, hm⟩ : ∃ m : Nat, vl r = (m : Int) := ⟨(vl r).toNat, by omega⟩
    rw [hm]
    simp only [Int.toNat_natCast]
    by_cases hz : d = 0 ∧ m = 0
    · obtain ⟨rfl, rfl⟩ := hz
      simp [dgs_zero]
    · rw [dgs_vl_cons hd.1 hd.2 (by omega)]
      rw [if_neg]
      rintro ⟨h1, h2⟩
      apply hz
      refine ⟨h2, ?_⟩
      by_cases hm0 : m = 0
      · exact hm0
      · rw [dgs_pos hm0] at h1
        cases h1
theorem dgs_Dg : ∀ n, Dg (dgs n) := by
  intro n
  induction n using Nat.strongRecOn with
  | ind n ih =>
    by_cases h : n = 0
    · subst h
      rw [dgs_zero]
      exact Dg.nil
    · rw [dgs_pos h]
      exact Dg.cons (by omega) (by omega) (ih _ (by omega))
theorem vl_dgs : ∀ n : Nat, vl (dgs n) = (n : Int) := by
  intro n
  induction n using Nat.strongRecOn with
  | ind n ih =>
    by_cases h : n = 0
    · subst h
      rw [dgs_zero]
      rfl
    · rw [dgs_pos h]
      show ((n % 1000000 : Nat) : Int) + 1000000 * vl (dgs (n / 1000000)) = _
      rw [ih _ (by omega)]
      omega
theorem dgs_eq_nil {n : Nat} : dgs n = [] ↔ n = 0 := by
  constructor
  · intro h
    by_cases hn : n = 0
    · exact hn
    · rw [dgs_pos hn] at h
      cases h
  · rintro rfl
    exact dgs_zero
theorem dgs_len_pow : ∀ (m n : Nat), n < 1000000 ^ m → (dgs n).length ≤ m := by
  intro m
  induction m with
  | zero =>
    intro n h
    have : n = 0 := by simpa using h
    subst this
    simp [dgs_zero]
  | succ m ih =>
    intro n h
    by_cases hn : n = 0
    · subst hn
      simp [dgs_zero]
    · rw [dgs_pos hn]
      have : n / 1000000 < 1000000 ^ m := by
        rw [Nat.div_lt_iff_lt_mul (by omega)]
        rw [Nat.pow_succ] at h
        exact h
      have := ih _ this
      simp
      exact this
theorem vl_append : ∀ (a b : List Int), vl (a ++ b) = vl a + 1000000 ^ a.length * vl b
  | [], b => by simp [vl]
  | d :: r, b => by
    show d + 1000000 * vl (r ++ b) = d + 1000000 * vl r + _
    rw [vl_append r b, List.length_cons, Int.pow_succ, Int.mul_add, ← Int.mul_assoc, Int.mul_comm 1000000 (1000000 ^ r.length)]
    omega
theorem tr_snoc_zero : ∀ l : List Int, tr (l ++ [0]) = tr l
  | [] => by simp [tr]
  | d :: r => by
    show (if tr (r ++ [0]) = [] ∧ d = 0 then [] else d :: tr (r ++ [0])) = (if tr r = [] ∧ d = 0 then [] else d :: tr r)
    rw [tr_snoc_zero r]
theorem tr_snoc_ne : ∀ (l : List Int) {x : Int}, x ≠ 0 → tr (l ++ [x]) = l ++ [x]
  | [], x, h => by simp [tr, h]
  | d :: r, x, h => by
    show (if tr (r ++ [x]) = [] ∧ d = 0 then [] else d :: tr (r ++ [x])) = d :: (r ++ [x])
    rw [tr_snoc_ne r h, if_neg]
    rintro ⟨h1, _⟩
    simp at h1
/-- a number as sign and digits -/
def enc (n : Int) : Bool × List Int := (decide (n < 0), dgs n.natAbs)
end Go.Proofs.YtaihfoihlbileaaDoor.R4
