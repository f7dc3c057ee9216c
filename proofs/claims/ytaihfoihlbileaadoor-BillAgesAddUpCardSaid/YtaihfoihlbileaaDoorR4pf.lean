/- What the checks, the amounts and the reference's sums answer: plain laws, no program in sight. -/
import Derived.Test.YtaihfoihlbileaaDoorR4pl
import Derived.Test.YtaihfoihlbileaaDoorR4b
namespace Go.Proofs.YtaihfoihlbileaaDoor.R4
open Go Go.Proofs Go.RowKit YtaihfoihlbileaaDoorW.PrintWords

theorem Tends.all {α : Type} {F : Nat → Nat → Option α} {v : Nat → α} : ∀ n : Nat, (∀ i, i < n → Tends (F i) (v i)) → ∃ k0, ∀ k, k0 ≤ k → ∀ i, i < n → F i k = some (v i)
  | 0, _ => ⟨0, fun _ _ i hi => absurd hi (Nat.not_lt_zero i)⟩
  | n + 1, h => by
    obtain ⟨k0, h0⟩ := Tends.all n fun i hi => h i (by omega)
    obtain ⟨k1, h1⟩ := h n (by omega)
    refine ⟨max k0 k1, fun k hk i hi => ?_⟩
    by_cases e : i = n
    · subst e
      exact h1 k (by omega)
    · exact h0 k (by omega) i (by omega)
/-- a decimal in units of the ninth place -/
def nine (d : SDc) : Int := d.f0 * 10 ^ (9 - d.f1).toNat
def nineL : List SDc → Int
  | [] => 0
  | d :: r => nine d + nineL r
theorem nineL_append (a b : List SDc) : nineL (a ++ b) = nineL a + nineL b := by
  induction a with
  | nil => simp [nineL]
  | cons x r ih => simp only [List.cons_append, nineL, ih]; omega
def SmallD (d : SDc) : Prop := 0 ≤ d.f1 ∧ d.f1 ≤ 9 ∧ -1000000000000000 ≤ d.f0 ∧ d.f0 ≤ 1000000000000000
theorem pow10_le {n : Nat} (h : n ≤ 9) : (1 : Int) ≤ 10 ^ n ∧ (10 : Int) ^ n ≤ 1000000000 := by
  match n, h with
  | 0, _ | 1, _ | 2, _ | 3, _ | 4, _ | 5, _ | 6, _ | 7, _ | 8, _ | 9, _ => decide
theorem nine_abs {d : SDc} (h : SmallD d) : (nine d).natAbs ≤ 1000000000000000000000000 := by
  obtain ⟨h0, h1, h2, h3⟩ := h
  obtain ⟨p0, p1⟩ := pow10_le (n := (9 - d.f1).toNat) (by omega)
  unfold nine
  rw [Int.natAbs_mul]
  have a1 : d.f0.natAbs ≤ 1000000000000000 := by omega
  have a2 : ((10 : Int) ^ (9 - d.f1).toNat).natAbs ≤ 1000000000 := by omega
  exact Nat.le_trans (Nat.mul_le_mul a1 a2) (by decide)
theorem Lo_big {n : Int} (h : n.natAbs ≤ 1000000000000000000000000000000) : Lo n := by
  unfold Lo
  have := dgs_len_pow 6 n.natAbs (by
    have : (1000000 : Nat) ^ 6 = 1000000000000000000000000000000000000 := by rfl
    omega)
  omega
theorem rdc_get (l : List SDc) (i : Nat) (h : i < l.length) : rd_T32 l i = l[i] := by
  show l.getD (i : Int).toNat _ = _
  rw [Int.toNat_natCast, List.getD_eq_getElem?_getD, List.getElem?_eq_getElem h]
  rfl
theorem nineL_abs : ∀ l : List SDc, (∀ d ∈ l, SmallD d) → (nineL l).natAbs ≤ l.length * 1000000000000000000000000
  | [], _ => by simp [nineL]
  | d :: r, h => by
    have h1 := nine_abs (h d (List.mem_cons_self ..))
    have h2 := nineL_abs r fun x hx => h x (List.mem_cons_of_mem _ hx)
    rw [nineL, List.length_cons]
    omega
theorem r_Exact_l0 (l : List SDc) (hl : l.length ≤ 1000) (hs : ∀ d ∈ l, SmallD d) : ∀ (m i : Nat), m + i = l.length → Tends (fun k => interchangeref1_Exact.l0 k l (l.length : Int) (i : Int) (enc (nineL (l.take i))).1 (enc (nineL (l.take i))).2) (enc (nineL l)) := by
  intro m
  induction m with
  | zero =>
    intro i hi
    refine Tends.step (fun k => by rw [interchangeref1_Exact.l0]) ?_
    simp only [if_neg (show ¬ (i : Int) < (l.length : Int) by omega)]
    rw [List.take_of_length_le (by omega)]
    exact Tends.const _
  | succ m ih =>
    intro i hi
    have hlt : i < l.length := by omega
    have hsd := hs _ (List.getElem_mem hlt)
    have w1 : wrap64 ((i : Int) + 1) = ((i + 1 : Nat) : Int) := by rw [w64] <;> omega
    have ht : nineL (l.take (i + 1)) = nineL (l.take i) + nine l[i] := by
      rw [List.take_add_one, List.getElem?_eq_getElem hlt, nineL_append]
      simp [nineL]
    have hb : (nineL (l.take i)).natAbs ≤ 1000 * 1000000000000000000000000 := Nat.le_trans (nineL_abs _ fun d hd => hs d (List.mem_of_mem_take hd)) (Nat.mul_le_mul_right _ (by rw [List.length_take]; omega))
    have hb2 := nine_abs hsd
    refine Tends.step (fun k => by rw [interchangeref1_Exact.l0]) ?_
    simp only [if_pos (show (i : Int) < (l.length : Int) by omega), if_pos (show (0 : Int) ≤ (i : Int) by omega), rdc_get l i hlt, w1]
    obtain ⟨h0, h1, h2, h3⟩ := hsd
    refine Tends.bind (r_At (by omega) (by omega) h1 (by omega)) ?_
    refine Tends.bind (r_Plus (Lo_big (by omega)) (Lo_big (by unfold nine at hb2; omega))) ?_
    have h9 := ih (i + 1) (by omega)
    rw [ht] at h9
    exact h9
theorem r_Money {l : List SDc} (hl : l.length ≤ 1000) (hs : ∀ d ∈ l, SmallD d) : Tends (fun k => interchangeref11_Money.f k l) (enc (nineL l)) := by
  unfold interchangeref11_Money.f interchangeref1_Exact.f
  have h9 := r_Exact_l0 l hl hs l.length 0 (by omega)
  rw [show enc (nineL (l.take 0)) = (false, []) by simp [nineL, enc, dgs_zero]] at h9
  exact Tends.bind h9 (Tends.const _)
theorem r_CmpM {a b : List SDc} (ha : a.length ≤ 1000) (hb : b.length ≤ 1000) (ha2 : ∀ d ∈ a, SmallD d) (hb2 : ∀ d ∈ b, SmallD d) : Tends (fun k => interchangeref1_Cmp.f k (enc (nineL a)).1 (enc (nineL a)).2 (enc (nineL b)).1 (enc (nineL b)).2) (nineL a - nineL b).sign :=
  r_Cmp (Lo_big (by have := nineL_abs a ha2; omega)) (Lo_big (by have := nineL_abs b hb2; omega))
/-! ### powers, amounts -/
theorem pw (e : Nat) (he : e ≤ 9) (k : Nat) (hk : 11 ≤ k) : bill_power.f k (e : Int) = some (10 ^ e) := by
  obtain ⟨j, rfl⟩ : ∃ j, k = j + 11 := ⟨k - 11, by omega⟩
  match e, he with
  | 0, _ | 1, _ | 2, _ | 3, _ | 4, _ | 5, _ | 6, _ | 7, _ | 8, _ | 9, _ => simp [bill_power.f, bill_power.l0, wrap64]
def GoodM (u p : Int) : Prop := 0 < u ∧ u ≤ 10000000000000 ∧ 0 ≤ p ∧ p ≤ 4 ∧ u * 10 ^ (4 - p).toNat ≤ 10000000000000
theorem pw4 {p : Int} (h0 : 0 ≤ p) (h4 : p ≤ 4) (k : Nat) (hk : 11 ≤ k) : bill_power.f k (wrap64 (4 - p)) = some (10 ^ (4 - p).toNat) := by
  rw [w64 (by omega) (by omega), show (4 - p : Int) = (((4 - p).toNat : Nat) : Int) by omega, pw _ (by omega) k hk, Int.toNat_natCast]
theorem money_any (u p : Int) : ∃ m : Int, (∀ k, 11 ≤ k → bill_moneyFault.f k u p = some m) ∧ (m = 0 → GoodM u p) := by
  unfold bill_moneyFault.f amount_CheckDecimal.f
  simp only [outside_eq, Option.bind_some]
  by_cases h1 : (decide (u < -1000000000000000) || decide (u > 1000000000000000)) = true
  · exact ⟨1, fun k _ => by simp [h1], fun h => by cases h⟩
  by_cases h2 : (decide (p < 0) || decide (p > 9)) = true
  · exact ⟨1, fun k _ => by simp [h1, h2], fun h => by cases h⟩
  by_cases h3 : u ≤ 0
  · exact ⟨1, fun k _ => by simp [h1, h2, h3], fun h => by cases h⟩
  by_cases h4 : p > 4
  · exact ⟨1, fun k _ => by simp [h1, h2, h3, h4], fun h => by cases h⟩
  have q1 : -1000000000000000 ≤ u ∧ u ≤ 1000000000000000 := by
    simp only [Bool.or_eq_true, decide_eq_true_eq, not_or, Int.not_lt] at h1
    omega
  have q2 : 0 ≤ p ∧ p ≤ 9 := by
    simp only [Bool.or_eq_true, decide_eq_true_eq, not_or, Int.not_lt] at h2
    omega
  have hp : ∀ k, 11 ≤ k → bill_power.f k p = some (10 ^ p.toNat) := fun k hk => by
    have := pw p.toNat (by omega) k hk
    rw [show ((p.toNat : Nat) : Int) = p by omega] at this
    exact this
  obtain ⟨b0, b1⟩ := pow10_le (n := p.toNat) (by omega)
  have hx : (10 : Int) ^ p.toNat ≤ 10000 := by
    have : p.toNat = 0 ∨ p.toNat = 1 ∨ p.toNat = 2 ∨ p.toNat = 3 ∨ p.toNat = 4 := by omega
    rcases this with h | h | h | h | h <;> rw [h] <;> decide
  have hw1 : wrap64 (1000000000 * 10 ^ p.toNat) = 1000000000 * 10 ^ p.toNat := w64 (by omega) (by omega)
  have hw2 : wrap64 (-(1000000000 * 10 ^ p.toNat)) = -(1000000000 * 10 ^ p.toNat) := w64 (by omega) (by omega)
  by_cases h5 : u ≤ 1000000000 * 10 ^ p.toNat
  · refine ⟨0, fun k hk => ?_, fun _ => ⟨by omega, by omega, q2.1, by omega, ?_⟩⟩
    · have e1 : (decide (u < -(1000000000 * 10 ^ p.toNat)) || decide (u > 1000000000 * 10 ^ p.toNat)) = false := by
        rw [decide_eq_false (by omega), decide_eq_false (by omega)]
        rfl
      simp only [if_neg h1, if_neg h2, if_neg h3, if_neg h4, Option.bind_some, if_true, bill_between.f, hp k hk, hw1, hw2, outside_eq, e1]
      rfl
    · have hpp : (10 : Int) ^ p.toNat * 10 ^ (4 - p).toNat = 10000 := by
        rw [← Int.pow_add, show p.toNat + (4 - p).toNat = 4 by omega]
        rfl
      have hq := (pow10_le (n := (4 - p).toNat) (by omega)).1
      have := Int.mul_le_mul_of_nonneg_right h5 (show (0 : Int) ≤ 10 ^ (4 - p).toNat by omega)
      rw [Int.mul_assoc, hpp] at this
      omega
  · refine ⟨1, fun k hk => ?_, fun h => by cases h⟩
    have e1 : (decide (u < -(1000000000 * 10 ^ p.toNat)) || decide (u > 1000000000 * 10 ^ p.toNat)) = true := by
      rw [decide_eq_true (show u > 1000000000 * 10 ^ p.toNat by omega), Bool.or_true]
    simp only [if_neg h1, if_neg h2, if_neg h3, if_neg h4, Option.bind_some, if_true, bill_between.f, hp k hk, hw1, hw2, outside_eq, e1]
    rfl
theorem cents_eq {u p : Int} (h : GoodM u p) (k : Nat) (hk : 11 ≤ k) : bill_cents.f k u p = some (u * 10 ^ (4 - p).toNat) := by
  obtain ⟨h0, h1, h2, h3, h4⟩ := h
  have hq := (pow10_le (n := (4 - p).toNat) (by omega)).1
  have hnn : 0 ≤ u * 10 ^ (4 - p).toNat := Int.mul_nonneg (by omega) (by omega)
  unfold bill_cents.f
  rw [pw4 h2 h3 k hk]
  show some (wrap64 _) = _
  rw [w64 (by omega) (by omega)]
def dscV (d : SDe) (o : Int) : Int := mn (Int.tdiv (d.f2.f0 * d.f5) 1000 * 10 ^ (4 - d.f2.f1).toNat) o
theorem discount_eq {d : SDe} (h : GoodM d.f2.f0 d.f2.f1) (h0 : 0 ≤ d.f5) (h1 : d.f5 ≤ 1000) (k : Nat) (hk : 11 ≤ k) (o pa t dn : Int) :
    bill_debt_discount.f k d.f0 d.f1 d.f2.f0 d.f2.f1 d.f3 d.f4 d.f5 o pa t dn = some (dscV d o, d.f0, d.f1, d.f2.f0, d.f2.f1, d.f3, d.f4, d.f5, o, pa, t, dn) := by
  obtain ⟨g0, g1, g2, g3, g4⟩ := h
  have hq := (pow10_le (n := (4 - d.f2.f1).toNat) (by omega)).1
  have hm : 0 ≤ d.f2.f0 * d.f5 := Int.mul_nonneg (by omega) h0
  have hm2 : d.f2.f0 * d.f5 ≤ d.f2.f0 * 1000 := Int.mul_le_mul_of_nonneg_left h1 (by omega)
  have hd : Int.tdiv (d.f2.f0 * d.f5) 1000 = d.f2.f0 * d.f5 / 1000 := Int.tdiv_eq_ediv_of_nonneg hm
  have hd2 : 0 ≤ d.f2.f0 * d.f5 / 1000 ∧ d.f2.f0 * d.f5 / 1000 ≤ d.f2.f0 := by omega
  have hd3 : 0 ≤ d.f2.f0 * d.f5 / 1000 * 10 ^ (4 - d.f2.f1).toNat := Int.mul_nonneg hd2.1 (by omega)
  have hd4 : d.f2.f0 * d.f5 / 1000 * 10 ^ (4 - d.f2.f1).toNat ≤ d.f2.f0 * 10 ^ (4 - d.f2.f1).toNat := Int.mul_le_mul_of_nonneg_right hd2.2 (by omega)
  unfold bill_debt_discount.f dscV
  rw [pw4 g2 g3 k hk]
  simp only [Option.bind_some]
  rw [w64 (n := d.f2.f0 * d.f5) (by omega) (by omega), hd, w64 (n := d.f2.f0 * d.f5 / 1000) (by omega) (by omega), w64 (by omega) (by omega)]
theorem dscV_le {d : SDe} (h : GoodM d.f2.f0 d.f2.f1) (h0 : 0 ≤ d.f5) (o : Int) (ho : 0 ≤ o) : 0 ≤ dscV d o ∧ dscV d o ≤ o := by
  obtain ⟨g0, g1, g2, g3, g4⟩ := h
  have hq := (pow10_le (n := (4 - d.f2.f1).toNat) (by omega)).1
  have hm : 0 ≤ d.f2.f0 * d.f5 := Int.mul_nonneg (by omega) h0
  have hd : Int.tdiv (d.f2.f0 * d.f5) 1000 = d.f2.f0 * d.f5 / 1000 := Int.tdiv_eq_ediv_of_nonneg hm
  have hd3 : 0 ≤ d.f2.f0 * d.f5 / 1000 * 10 ^ (4 - d.f2.f1).toNat := Int.mul_nonneg (by omega) (by omega)
  unfold dscV mn
  rw [hd]
  split <;> omega
end Go.Proofs.YtaihfoihlbileaaDoor.R4
