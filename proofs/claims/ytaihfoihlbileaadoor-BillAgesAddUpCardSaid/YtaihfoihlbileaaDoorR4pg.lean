/- The names, and CheckPayments as a whole: plain laws. -/
import Derived.Test.YtaihfoihlbileaaDoorR4pf
namespace Go.Proofs.YtaihfoihlbileaaDoor.R4
open Go Go.Proofs Go.RowKit YtaihfoihlbileaaDoorW.PrintWords
theorem name_any (s : ByteArray) : ∃ b : Bool, kit_IsName.f s = some b ∧ (b = true → s.size ≤ 40) := by
  unfold kit_IsName.f
  by_cases h1 : (s.size : Int) < 1
  · exact ⟨false, by rw [if_pos h1], fun h => by cases h⟩
  by_cases h2 : (s.size : Int) > 40
  · exact ⟨false, by rw [if_neg h1, if_pos h2], fun h => by cases h⟩
  have h3 : (0 : Int) < (s.size : Int) := by omega
  by_cases h4 : bt s 0 < 97
  · exact ⟨false, by rw [if_neg h1, if_neg h2, if_pos h3, if_pos h4], fun h => by cases h⟩
  by_cases h5 : bt s 0 > 122
  · exact ⟨false, by rw [if_neg h1, if_neg h2, if_pos h3, if_neg h4, if_pos h5], fun h => by cases h⟩
  rw [if_neg h1, if_neg h2, if_pos h3, if_neg h4, if_neg h5]
  unfold strings_Trim.f
  rw [if_pos ⟨by omega, by decide, by decide⟩]
  exact ⟨_, rfl, fun _ => by omega⟩
theorem index_any (l : List ByteArray) (x : ByteArray) (hl : l.length ≤ 1000) : ∀ (m i : Nat), m + i = l.length → ∃ r : Int, Tends (fun k => slices_Index_string_string.l0 k l x (l.length : Int) (i : Int)) r := by
  intro m
  induction m with
  | zero =>
    intro i hi
    refine ⟨-1, ?_⟩
    refine Tends.step (fun k => by rw [slices_Index_string_string.l0]) ?_
    simp only [if_neg (show ¬ (i : Int) < (l.length : Int) by omega)]
    exact Tends.const _
  | succ m ih =>
    intro i hi
    obtain ⟨r, hr⟩ := ih (i + 1) (by omega)
    have w1 : wrap64 ((i : Int) + 1) = ((i + 1 : Nat) : Int) := by rw [w64] <;> omega
    by_cases h : x.toList = (rdOf ByteArray.empty l i).toList
    · refine ⟨i, ?_⟩
      refine Tends.step (fun k => by rw [slices_Index_string_string.l0]) ?_
      simp only [if_pos (show (i : Int) < (l.length : Int) by omega), if_pos (show (0 : Int) ≤ (i : Int) by omega), if_pos h]
      exact Tends.const _
    · refine ⟨r, ?_⟩
      refine Tends.step (fun k => by rw [slices_Index_string_string.l0]) ?_
      simp only [if_pos (show (i : Int) < (l.length : Int) by omega), if_pos (show (0 : Int) ≤ (i : Int) by omega), if_neg h, w1]
      exact hr
theorem cont_any (l : List ByteArray) (x : ByteArray) (hl : l.length ≤ 1000) : ∃ b : Bool, Tends (fun k => slices_Contains_string_string.f k l x) b := by
  obtain ⟨r, hr⟩ := index_any l x hl l.length 0 (by omega)
  unfold slices_Contains_string_string.f slices_Index_string_string.f
  exact ⟨_, Tends.bind hr (Tends.const _)⟩
/-- what a payment is that CheckPayments lets by -/
def GoodP (p : SPa) : Prop := dayB p.f0 = true ∧ GoodM p.f1.f0 p.f1.f1 ∧ p.f2.length ≤ 100 ∧ ∀ j : Nat, j < p.f2.length → (rdOf ByteArray.empty p.f2 j).size ≤ 40
theorem cp_l1 (l1 : List SPa) (i : Nat) (p : SPa) (hp : p.f2.length ≤ 100) (P : Prop) (hrest : ∃ e : Int, Tends (fun k => bill_CheckPayments.l0 k l1 l1 (l1.length : Int) (wrap64 ((i : Int) + 1))) e ∧ (e = 0 → P)) :
    ∀ (m q : Nat), m + q = p.f2.length → ∃ e : Int, Tends (fun k => bill_CheckPayments.l1 k l1 l1 (l1.length : Int) (i : Int) p.f2 (p.f2.length : Int) (q : Int) p.f0 p.f1.f0 p.f1.f1 p.f2) e ∧ (e = 0 → P ∧ ∀ j : Nat, q ≤ j → j < p.f2.length → (rdOf ByteArray.empty p.f2 j).size ≤ 40) := by
  intro m
  induction m with
  | zero =>
    intro q hq
    obtain ⟨e, he, hP⟩ := hrest
    refine ⟨e, ?_, fun h => ⟨hP h, fun j h1 h2 => by omega⟩⟩
    refine Tends.step (fun k => by rw [bill_CheckPayments.l1]) ?_
    simp only [if_neg (show ¬ (q : Int) < (p.f2.length : Int) by omega)]
    exact he
  | succ m ih =>
    intro q hq
    obtain ⟨e, he, hP⟩ := ih (q + 1) (by omega)
    have w1 : wrap64 ((q : Int) + 1) = ((q + 1 : Nat) : Int) := by rw [w64] <;> omega
    obtain ⟨b, hb, hs⟩ := name_any (rdOf ByteArray.empty p.f2 q)
    obtain ⟨c, hc⟩ := cont_any (p.f2.take q) (rdOf ByteArray.empty p.f2 q) (by rw [List.length_take]; omega)
    cases b with
    | false =>
      refine ⟨5, ?_, fun h => by cases h⟩
      refine Tends.step (fun k => by rw [bill_CheckPayments.l1]) ?_
      simp only [if_pos (show (q : Int) < (p.f2.length : Int) by omega), if_pos (show (0 : Int) ≤ (q : Int) by omega), hb, Option.bind_some]
      exact Tends.const _
    | true =>
      cases c with
      | true =>
        refine ⟨7, ?_, fun h => by cases h⟩
        refine Tends.step (fun k => by rw [bill_CheckPayments.l1]) ?_
        simp only [if_pos (show (q : Int) < (p.f2.length : Int) by omega), if_pos (show (0 : Int) ≤ (q : Int) by omega), hb, Option.bind_some, if_true, if_pos (show (q : Int) ≤ (p.f2.length : Int) by omega), Int.toNat_natCast]
        exact Tends.bind hc (Tends.const _)
      | false =>
        refine ⟨e, ?_, fun h => ⟨(hP h).1, fun j h1 h2 => ?_⟩⟩
        · refine Tends.step (fun k => by rw [bill_CheckPayments.l1]) ?_
          simp only [if_pos (show (q : Int) < (p.f2.length : Int) by omega), if_pos (show (0 : Int) ≤ (q : Int) by omega), hb, Option.bind_some, if_true, if_pos (show (q : Int) ≤ (p.f2.length : Int) by omega), Int.toNat_natCast, w1]
          exact Tends.bind hc he
        · by_cases hj : j = q
          · subst hj
            exact hs rfl
          · exact (hP h).2 j (by omega) h2
/-- what CheckPayments lets by, with the order of the days -/
def GoodQ (l1 : List SPa) (j : Nat) : Prop := GoodP (rdA l1 j) ∧ (0 < j → ¬ (rdA l1 j).f0 < (rdA l1 ((j - 1 : Nat) : Int)).f0)
theorem cp_l0 (l1 : List SPa) (hl : l1.length ≤ 500) : ∀ (m i : Nat), m + i = l1.length → ∃ e : Int, Tends (fun k => bill_CheckPayments.l0 k l1 l1 (l1.length : Int) (i : Int)) e ∧ (e = 0 → ∀ j : Nat, i ≤ j → j < l1.length → GoodQ l1 j) := by
  intro m
  induction m with
  | zero =>
    intro i hi
    refine ⟨0, ?_, fun _ j h1 h2 => by omega⟩
    refine Tends.step (fun k => by rw [bill_CheckPayments.l0]) ?_
    simp only [if_neg (show ¬ (i : Int) < (l1.length : Int) by omega)]
    exact Tends.const _
  | succ m ih =>
    intro i hi
    obtain ⟨e, he, hP⟩ := ih (i + 1) (by omega)
    have w1 : wrap64 ((i : Int) + 1) = ((i + 1 : Nat) : Int) := by rw [w64] <;> omega
    obtain ⟨mv, hm, hgood⟩ := money_any (rdA l1 i).f1.f0 (rdA l1 i).f1.f1
    -- what follows the order's test
    have hj1 : ∀ x34 : Bool, ∃ e2 : Int, Tends (fun k => bill_CheckPayments.j1 k l1 l1 (l1.length : Int) (i : Int) x34 (rdA l1 i).f0 (rdA l1 i).f1.f0 (rdA l1 i).f1.f1 (rdA l1 i).f2) e2 ∧ (e2 = 0 → (x34 = false) ∧ (∀ j : Nat, i + 1 ≤ j → j < l1.length → GoodQ l1 j) ∧ GoodM (rdA l1 i).f1.f0 (rdA l1 i).f1.f1 ∧ (rdA l1 i).f2.length ≤ 100 ∧ ∀ j : Nat, j < (rdA l1 i).f2.length → (rdOf ByteArray.empty (rdA l1 i).f2 j).size ≤ 40) := by
      intro x34
      cases x34 with
      | true =>
        refine ⟨8, ?_, fun h => by cases h⟩
        refine Tends.step (fun k => by rw [bill_CheckPayments.j1]) ?_
        exact Tends.const _
      | false =>
        have hmt : Tends (fun k => bill_moneyFault.f k (rdA l1 i).f1.f0 (rdA l1 i).f1.f1) mv := ⟨11, hm⟩
        by_cases h0 : mv = 0
        · subst h0
          by_cases hbig : ((rdA l1 i).f2.length : Int) > 100
          · refine ⟨2, ?_, fun h => by cases h⟩
            refine Tends.step (fun k => by rw [bill_CheckPayments.j1]) ?_
            simp only [Bool.false_eq_true, if_false]
            refine Tends.bind hmt ?_
            simp only [if_true, if_pos hbig]
            exact Tends.const _
          · obtain ⟨e2, he2, hP2⟩ := cp_l1 l1 i (rdA l1 i) (by omega) (∀ j : Nat, i + 1 ≤ j → j < l1.length → GoodQ l1 j) ⟨e, by rw [w1]; exact he, hP⟩ (rdA l1 i).f2.length 0 (by omega)
            refine ⟨e2, ?_, fun h => ⟨rfl, (hP2 h).1, hgood rfl, by omega, fun j hj => (hP2 h).2 j (Nat.zero_le _) hj⟩⟩
            refine Tends.step (fun k => by rw [bill_CheckPayments.j1]) ?_
            simp only [Bool.false_eq_true, if_false]
            refine Tends.bind hmt ?_
            simp only [if_true, if_neg hbig]
            exact he2
        · refine ⟨mv, ?_, fun h => absurd h h0⟩
          refine Tends.step (fun k => by rw [bill_CheckPayments.j1]) ?_
          simp only [Bool.false_eq_true, if_false]
          refine Tends.bind hmt ?_
          simp only [if_neg h0]
          exact Tends.const _
    cases hd : dayB (rdA l1 i).f0 with
    | false =>
      refine ⟨1, ?_, fun h => by cases h⟩
      refine Tends.step (fun k => by rw [bill_CheckPayments.l0]) ?_
      simp only [if_pos (show (i : Int) < (l1.length : Int) by omega), if_pos (show (0 : Int) ≤ (i : Int) by omega), isDay_eq, hd, Option.bind_some]
      exact Tends.const _
    | true =>
      by_cases hi0 : (i : Int) > 0
      · have w2 : wrap64 ((i : Int) - 1) = (i : Int) - 1 := by rw [w64] <;> omega
        obtain ⟨e2, he2, hP2⟩ := hj1 (decide ((rdA l1 i).f0 < (rdA l1 ((i : Int) - 1)).f0))
        refine ⟨e2, ?_, fun h j h1 h2 => ?_⟩
        · refine Tends.step (fun k => by rw [bill_CheckPayments.l0]) ?_
          simp only [if_pos (show (i : Int) < (l1.length : Int) by omega), if_pos (show (0 : Int) ≤ (i : Int) by omega), isDay_eq, hd, Option.bind_some, if_true, if_pos hi0, w2, if_pos (show (0 : Int) ≤ (i : Int) - 1 by omega), if_pos (show (i : Int) - 1 < (l1.length : Int) by omega)]
          exact he2
        · by_cases hj : j = i
          · subst hj
            refine ⟨⟨hd, (hP2 h).2.2⟩, fun _ => ?_⟩
            rw [show ((j - 1 : Nat) : Int) = (j : Int) - 1 by omega]
            exact of_decide_eq_false (hP2 h).1
          · exact (hP2 h).2.1 j (by omega) h2
      · obtain ⟨e2, he2, hP2⟩ := hj1 false
        refine ⟨e2, ?_, fun h j h1 h2 => ?_⟩
        · refine Tends.step (fun k => by rw [bill_CheckPayments.l0]) ?_
          simp only [if_pos (show (i : Int) < (l1.length : Int) by omega), if_pos (show (0 : Int) ≤ (i : Int) by omega), isDay_eq, hd, Option.bind_some, if_true, if_neg hi0]
          exact he2
        · by_cases hj : j = i
          · subst hj
            exact ⟨⟨hd, (hP2 h).2.2⟩, fun h0 => absurd (by omega) hi0⟩
          · exact (hP2 h).2.1 j (by omega) h2
theorem payments_any2 (l1 : List SPa) : ∃ e : Int, Tends (fun k => bill_CheckPayments.f k l1) e ∧ (e = 0 → l1.length ≤ 500 ∧ ∀ j : Nat, j < l1.length → GoodQ l1 j) := by
  unfold bill_CheckPayments.f
  by_cases h : (l1.length : Int) > 500
  · exact ⟨2, by simp only [if_pos h]; exact Tends.const _, fun h => by cases h⟩
  · obtain ⟨e, he, hP⟩ := cp_l0 l1 (by omega) l1.length 0 (by omega)
    exact ⟨e, by simp only [if_neg h]; exact he, fun h0 => ⟨by omega, fun j hj => hP h0 j (Nat.zero_le _) hj⟩⟩
theorem payments_any (l1 : List SPa) : ∃ e : Int, Tends (fun k => bill_CheckPayments.f k l1) e ∧ (e = 0 → l1.length ≤ 500 ∧ ∀ j : Nat, j < l1.length → GoodP (rdA l1 j)) := by
  obtain ⟨e, he, hP⟩ := payments_any2 l1
  exact ⟨e, he, fun h0 => ⟨(hP h0).1, fun j hj => ((hP h0).2 j hj).1⟩⟩
end Go.Proofs.YtaihfoihlbileaaDoor.R4
