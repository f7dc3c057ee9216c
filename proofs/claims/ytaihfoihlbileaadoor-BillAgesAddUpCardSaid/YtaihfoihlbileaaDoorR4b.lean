/- The reference's whole numbers: each function answers, from some number of rounds on, with the digits of what it should: plain laws. -/
import Derived.Test.YtaihfoihlbileaaDoorR4a
namespace Go.Proofs.YtaihfoihlbileaaDoor.R4
open Go Go.Proofs Go.RowKit YtaihfoihlbileaaDoorW.PrintWords

theorem rd_snoc (l : List Int) (x : Int) : rd (l ++ [x]) (l.length : Int) = x := by
  unfold rd
  simp
theorem rd_nat (l : List Int) (i : Nat) : rd l (i : Int) = l.getD i 0 := by
  unfold rd
  simp
theorem vl_drop (l : List Int) (i : Nat) : vl (l.drop i) = l.getD i 0 + 1000000 * vl (l.drop (i + 1)) := by
  by_cases h : i < l.length
  · rw [List.drop_eq_getElem_cons h]
    show l[i] + 1000000 * vl (l.drop (i + 1)) = _
    simp [h]
  · rw [List.drop_eq_nil_of_le (by omega), List.drop_eq_nil_of_le (by omega)]
    simp [vl, h]
theorem Dg.getD {l : List Int} (h : Dg l) (i : Nat) : 0 ≤ l.getD i 0 ∧ l.getD i 0 < 1000000 := by
  by_cases hi : i < l.length
  · have := h l[i] (List.getElem_mem hi)
    simpa [hi] using this
  · simp [hi]

/-! ### trimmed -/
theorem r_trimmed (neg : Bool) : ∀ (n : Nat) (l : List Int), l.length = n → n < 4611686018427387904 → Tends (fun k => interchangeref1_trimmed.l0 k neg l) ((if tr l = [] then false else neg), tr l) := by
  intro n
  induction n with
  | zero =>
    intro l hl _
    obtain rfl := List.length_eq_zero_iff.1 hl
    refine Tends.step (fun k => by rw [interchangeref1_trimmed.l0]) ?_
    exact Tends.of fun k => by simp [tr]
  | succ n ih =>
    intro l hl hn
    obtain rfl | ⟨l', x, rfl⟩ := List.eq_nil_or_concat l
    · simp at hl
    rw [List.concat_eq_append] at hl ⊢
    have hl' : l'.length = n := by simpa using hl
    refine Tends.step (fun k => by rw [interchangeref1_trimmed.l0]) ?_
    have hL : (l' ++ [x]).length = l'.length + 1 := by simp
    have e : wrap64 (((l' ++ [x]).length : Int) - 1) = (l'.length : Int) := by rw [w64 (by omega) (by omega)]; omega
    simp only [e]
    have c1 : ((l' ++ [x]).length : Int) > 0 := by omega
    have c2 : (0 : Int) ≤ (l'.length : Int) := by omega
    have c3 : (l'.length : Int) < ((l' ++ [x]).length : Int) := by omega
    have c4 : ¬ ((l' ++ [x]).length : Int) = 0 := by omega
    simp only [if_pos c1, if_pos c2, if_pos c3, rd_snoc, if_neg c4, if_pos (show (l'.length : Int) ≤ ((l' ++ [x]).length : Int) by omega)]
    by_cases hx : x = 0
    · subst hx
      simp only [if_true, Int.toNat_natCast, List.take_left]
      rw [tr_snoc_zero]
      exact ih l' hl' (by omega)
    · simp only [if_neg hx]
      rw [tr_snoc_ne _ hx]
      simp only [List.append_eq_nil_iff, List.cons_ne_self, and_false, if_false]
      exact Tends.const _
/-- what is trimmed of right digits is the number -/
theorem r_trim {neg : Bool} {l : List Int} {m : Nat} (hl : l.length < 4611686018427387904) (hd : Dg l) (hv : vl l = (m : Int)) : Tends (fun k => interchangeref1_trimmed.f k neg l) ((if m = 0 then false else neg), dgs m) := by
  have h := r_trimmed neg l.length l rfl hl
  rw [tr_dgs hd, hv, Int.toNat_natCast] at h
  simp only [dgs_eq_nil] at h
  exact h
/-! ### Of -/
theorem r_Of_l0 (neg : Bool) : ∀ (j : Nat) (x : Int) (ds : List Int), x.natAbs < 1000000 ^ j → -9223372036854775808 ≤ x → x ≤ 9223372036854775807 → ds.length + j < 17592186044416 → Tends (fun k => interchangeref1_Of.l0 k x neg ds) (neg, ds ++ dgs x.natAbs) := by
  intro j
  induction j with
  | zero =>
    intro x ds h _ _ _
    have hx : x = 0 := by
      have : x.natAbs = 0 := by simpa using h
      omega
    subst hx
    refine Tends.step (fun k => by rw [interchangeref1_Of.l0]) ?_
    simp only [if_true]
    exact Tends.of fun k => by simp [dgs_zero]
  | succ j ih =>
    intro x ds h h0 h1 hl
    refine Tends.step (fun k => by rw [interchangeref1_Of.l0]) ?_
    by_cases hx : x = 0
    · subst hx
      simp only [if_true]
      exact Tends.of fun k => by simp [dgs_zero]
    · simp only [if_neg hx, if_pos (show ds.length < 17592186044416 by omega)]
      have e1 : (x.tdiv 1000000).natAbs = x.natAbs / 1000000 := Int.natAbs_tdiv x 1000000
      have e2 : (x.tmod 1000000).natAbs = x.natAbs % 1000000 := Int.natAbs_tmod x 1000000
      have e3 : wrap64 (x.tdiv 1000000) = x.tdiv 1000000 := w64 (by omega) (by omega)
      have e4 : wrap64 (-(x.tmod 1000000)) = -(x.tmod 1000000) := w64 (by omega) (by omega)
      have e5 : mx (x.tmod 1000000) (-(x.tmod 1000000)) = ((x.natAbs % 1000000 : Nat) : Int) := by
        unfold mx
        split <;> omega
      have h2 : x.natAbs / 1000000 < 1000000 ^ j := by
        rw [Nat.div_lt_iff_lt_mul (by omega)]
        rw [Nat.pow_succ] at h
        exact h
      rw [e3, e4, e5]
      have hh := ih (x.tdiv 1000000) (ds ++ [((x.natAbs % 1000000 : Nat) : Int)]) (by rw [e1]; exact h2) (by omega) (by omega) (by simp; omega)
      rw [e1, List.append_assoc] at hh
      rw [dgs_pos (show x.natAbs ≠ 0 by omega)]
      exact hh
theorem r_Of {n : Int} (h0 : -9223372036854775808 ≤ n) (h1 : n ≤ 9223372036854775807) : Tends (fun k => interchangeref1_Of.f k n) (enc n) := by
  have h := r_Of_l0 (decide (n < 0)) 4 n [] (by have : (1000000 : Nat) ^ 4 = 1000000000000000000000000 := by rfl
                                                omega) h0 h1 (by simp)
  exact h
/-! ### Minus, Sign -/
theorem r_Minus (n : Int) : interchangeref1_Minus.f (enc n).1 (enc n).2 = some (enc (-n)) := by
  unfold interchangeref1_Minus.f enc
  by_cases h : n = 0
  · subst h
    simp [dgs_zero]
  · have h1 : dgs n.natAbs ≠ [] := fun e => by rw [dgs_eq_nil] at e; omega
    have h2 : ((dgs n.natAbs).length : Int) > 0 := by
      have := List.length_pos_iff.2 h1
      omega
    simp only [if_pos h2, Int.natAbs_neg]
    congr 2
    by_cases hn : n < 0
    · simp only [hn, decide_true, Bool.not_true]
      symm
      apply decide_eq_false
      omega
    · simp only [hn, decide_false, Bool.not_false]
      symm
      apply decide_eq_true
      omega
theorem r_Sign (n : Int) : interchangeref1_Sign.f (enc n).1 (enc n).2 = some n.sign := by
  unfold interchangeref1_Sign.f enc
  by_cases h : n = 0
  · subst h
    simp [dgs_zero]
  · have h1 : dgs n.natAbs ≠ [] := fun e => by rw [dgs_eq_nil] at e; omega
    have h2 : ¬ ((dgs n.natAbs).length : Int) = 0 := by
      have := List.length_pos_iff.2 h1
      omega
    simp only [if_neg h2]
    by_cases hn : n < 0
    · simp [hn, Int.sign_eq_neg_one_of_neg hn]
    · simp [hn, Int.sign_eq_one_of_pos (show 0 < n by omega)]
/-! ### sizes -/
def sz : List Int → List Int → Int
  | x :: a, y :: b => if sz a b = 0 then x - y else sz a b
  | _, _ => 0
theorem sz_snoc : ∀ (a b : List Int) (x y : Int), a.length = b.length → sz (a ++ [x]) (b ++ [y]) = if x = y then sz a b else x - y
  | [], [], x, y, _ => by simp [sz]; omega
  | u :: a, v :: b, x, y, h => by
    have ih := sz_snoc a b x y (by simpa using h)
    show (if sz (a ++ [x]) (b ++ [y]) = 0 then u - v else sz (a ++ [x]) (b ++ [y])) = _
    rw [ih]
    by_cases e : x = y
    · simp [e, sz]
    · simp [e]
      omega
  | [], _ :: _, _, _, h => by simp at h
  | _ :: _, [], _, _, h => by simp at h
theorem sz_vl : ∀ (a b : List Int), a.length = b.length → Dg a → Dg b → (sz a b < 0 ↔ vl a < vl b) ∧ (sz a b = 0 ↔ vl a = vl b) ∧ -1000000 < sz a b ∧ sz a b < 1000000
  | [], [], _, _, _ => by simp [sz, vl]
  | u :: a, v :: b, h, ha, hb => by
    have ih := sz_vl a b (by simpa using h) ha.tail hb.tail
    have h1 := ha.head
    have h2 := hb.head
    show ((if sz a b = 0 then u - v else sz a b) < 0 ↔ u + 1000000 * vl a < v + 1000000 * vl b) ∧ ((if sz a b = 0 then u - v else sz a b) = 0 ↔ u + 1000000 * vl a = v + 1000000 * vl b) ∧ _ < (if sz a b = 0 then u - v else sz a b) ∧ (if sz a b = 0 then u - v else sz a b) < _
    by_cases e : sz a b = 0
    · simp only [e, if_true]
      have := ih.2.1.1 e
      omega
    · simp only [e, if_false]
      have h3 : ¬ vl a = vl b := fun q => e (ih.2.1.2 q)
      have h4 := ih.1
      have h5 := ih.2.2
      refine ⟨?_, ?_, h5.1, h5.2⟩
      · rw [h4]
        omega
      · constructor
        · intro q
          exact absurd q (by simp)
        · intro q
          omega
  | [], _ :: _, h, _, _ => by simp at h
  | _ :: _, [], h, _, _ => by simp at h
theorem take_succ_getD {l : List Int} {i : Nat} (h : i < l.length) : l.take (i + 1) = l.take i ++ [l.getD i 0] := by
  rw [List.take_add_one]
  simp [h]
theorem r_sizes_l0 (a b : List Int) (ha : Dg a) (hb : Dg b) (hab : a.length = b.length) (hlen : a.length < 4611686018427387904) : ∀ (n : Nat), n ≤ a.length → Tends (fun k => interchangeref1_sizes.l0 k a b ((n : Int) - 1)) (sz (a.take n) (b.take n)) := by
  intro n
  induction n with
  | zero =>
    intro _
    refine Tends.step (fun k => by rw [interchangeref1_sizes.l0]) ?_
    exact Tends.of fun k => by simp [sz]
  | succ n ih =>
    intro hn
    refine Tends.step (fun k => by rw [interchangeref1_sizes.l0]) ?_
    have e0 : (((n + 1 : Nat) : Int) - 1) = (n : Int) := by omega
    simp only [e0]
    have g1 := ha.getD n
    have g2 := hb.getD n
    simp only [if_pos (show (n : Int) ≥ 0 by omega), if_pos (show (n : Int) < (a.length : Int) by omega), if_pos (show (n : Int) < (b.length : Int) by omega), rd_nat]
    rw [take_succ_getD (show n < a.length by omega), take_succ_getD (show n < b.length by omega), sz_snoc _ _ _ _ (by simp [hab])]
    by_cases e : a.getD n 0 = b.getD n 0
    · simp only [if_pos e]
      rw [w64 (by omega) (by omega)]
      exact ih (by omega)
    · simp only [if_neg e]
      rw [w64 (by omega) (by omega)]
      exact Tends.const _
theorem dgs_len_mono : ∀ (m n : Nat), n ≤ m → (dgs n).length ≤ (dgs m).length := by
  intro m
  induction m using Nat.strongRecOn with
  | ind m ih =>
    intro n h
    by_cases hn : n = 0
    · subst hn
      simp [dgs_zero]
    · rw [dgs_pos hn, dgs_pos (show m ≠ 0 by omega)]
      have := ih (m / 1000000) (by omega) (n / 1000000) (by omega)
      simp
      exact this
theorem r_sizes {m n : Nat} (hm : (dgs m).length < 4611686018427387904) (hn : (dgs n).length < 4611686018427387904) : ∃ t : Int, Tends (fun k => interchangeref1_sizes.f k (dgs m) (dgs n)) t ∧ (t < 0 ↔ m < n) := by
  unfold interchangeref1_sizes.f
  by_cases h : (dgs m).length = (dgs n).length
  · refine ⟨sz (dgs m) (dgs n), ?_, ?_⟩
    · simp only [if_pos (show ((dgs m).length : Int) = ((dgs n).length : Int) by omega)]
      rw [w64 (by omega) (by omega)]
      have := r_sizes_l0 (dgs m) (dgs n) (dgs_Dg m) (dgs_Dg n) h hm _ (Nat.le_refl _)
      rw [List.take_length, h, List.take_length] at this
      rw [h]
      exact this
    · have := (sz_vl _ _ h (dgs_Dg m) (dgs_Dg n)).1
      rw [vl_dgs, vl_dgs] at this
      rw [this]
      omega
  · refine ⟨((dgs m).length : Int) - ((dgs n).length : Int), ?_, ?_⟩
    · simp only [if_neg (show ¬ ((dgs m).length : Int) = ((dgs n).length : Int) by omega)]
      rw [w64 (by omega) (by omega)]
      exact Tends.const _
    · constructor
      · intro hlt
        by_cases hmn : m < n
        · exact hmn
        · have := dgs_len_mono m n (by omega)
          omega
      · intro hlt
        have := dgs_len_mono n m (by omega)
        omega
/-! ### sums -/
def addc : Nat → Int → List Int → List Int → List Int
  | 0, _, _, _ => []
  | n + 1, c, a, b => (a.getD 0 0 + b.getD 0 0 + c) % 1000000 :: addc n ((a.getD 0 0 + b.getD 0 0 + c) / 1000000) (a.drop 1) (b.drop 1)
theorem addc_vl : ∀ (n : Nat) (c : Int) (a b : List Int), Dg a → Dg b → 0 ≤ c → c ≤ 1 → Dg (addc n c a b) ∧ (vl a + vl b + c < 1000000 ^ n → vl (addc n c a b) = vl a + vl b + c)
  | 0, c, a, b, ha, hb, h0, h1 => by
    refine ⟨Dg.nil, fun h => ?_⟩
    have := vl_nonneg ha
    have := vl_nonneg hb
    simp only [Int.pow_zero] at h
    show (0 : Int) = _
    omega
  | n + 1, c, a, b, ha, hb, h0, h1 => by
    have g1 := ha.getD 0
    have g2 := hb.getD 0
    have ih := addc_vl n ((a.getD 0 0 + b.getD 0 0 + c) / 1000000) (a.drop 1) (b.drop 1) (ha.drop 1) (hb.drop 1) (by omega) (by omega)
    have e1 := vl_drop a 0
    have e2 := vl_drop b 0
    simp only [List.drop_zero, Nat.zero_add] at e1 e2
    refine ⟨Dg.cons (by omega) (by omega) ih.1, fun h => ?_⟩
    rw [Int.pow_succ] at h
    show (a.getD 0 0 + b.getD 0 0 + c) % 1000000 + 1000000 * vl (addc n _ _ _) = _
    rw [ih.2 (by omega)]
    omega
theorem addc_len : ∀ (n : Nat) (c : Int) (a b : List Int), (addc n c a b).length = n
  | 0, _, _, _ => rfl
  | n + 1, c, a, b => by
    show (addc n _ _ _).length + 1 = n + 1
    rw [addc_len n]
theorem r_digit (l : List Int) (i : Nat) : interchangeref1_digit.f l (i : Int) = some (l.getD i 0) := by
  unfold interchangeref1_digit.f
  by_cases h : i < l.length
  · simp only [if_pos (show (i : Int) < (l.length : Int) by omega), if_pos (show (0 : Int) ≤ (i : Int) by omega), rd_nat]
  · simp only [if_neg (show ¬ (i : Int) < (l.length : Int) by omega)]
    simp [h]
theorem getD_drop0 (l : List Int) (i : Nat) : (l.drop i).getD 0 0 = l.getD i 0 := by
  simp [List.getD_eq_getElem?_getD, List.getElem?_drop]
theorem r_Plus_l1 (a b : List Int) (ha : Dg a) (hb : Dg b) (na nb neg : Bool) (N : Nat) (hN : N < 17592186044416) : ∀ (m i : Nat) (c : Int) (acc : List Int), m + i = N → acc.length = i → 0 ≤ c → c ≤ 1 → ∀ {v : Bool × List Int}, Tends (fun k => interchangeref1_trimmed.f k neg (acc ++ addc m c (a.drop i) (b.drop i))) v → Tends (fun k => interchangeref1_Plus_fo.l1 k c (N : Int) (i : Int) na a nb b neg acc) v := by
  intro m
  induction m with
  | zero =>
    intro i c acc hi hacc h0 h1 v hv
    refine Tends.step (fun k => by rw [interchangeref1_Plus_fo.l1]) ?_
    simp only [if_neg (show ¬ (i : Int) < (N : Int) by omega)]
    rw [show addc 0 c (a.drop i) (b.drop i) = [] from rfl, List.append_nil] at hv
    exact Tends.bind hv (Tends.const _)
  | succ m ih =>
    intro i c acc hi hacc h0 h1 v hv
    refine Tends.step (fun k => by rw [interchangeref1_Plus_fo.l1]) ?_
    have g1 := ha.getD i
    have g2 := hb.getD i
    simp only [if_pos (show (i : Int) < (N : Int) by omega), r_digit, Option.bind_some, if_pos (show acc.length < 17592186044416 by omega)]
    have e1 : wrap64 (a.getD i 0 + b.getD i 0) = a.getD i 0 + b.getD i 0 := w64 (by omega) (by omega)
    have e2 : wrap64 (a.getD i 0 + b.getD i 0 + c) = a.getD i 0 + b.getD i 0 + c := w64 (by omega) (by omega)
    have e3 : (a.getD i 0 + b.getD i 0 + c).tdiv 1000000 = (a.getD i 0 + b.getD i 0 + c) / 1000000 := Int.tdiv_eq_ediv_of_nonneg (by omega)
    have e4 : (a.getD i 0 + b.getD i 0 + c).tmod 1000000 = (a.getD i 0 + b.getD i 0 + c) % 1000000 := Int.tmod_eq_emod_of_nonneg (by omega)
    have e5 : wrap64 ((a.getD i 0 + b.getD i 0 + c) / 1000000) = (a.getD i 0 + b.getD i 0 + c) / 1000000 := w64 (by omega) (by omega)
    have e6 : wrap64 ((i : Int) + 1) = ((i + 1 : Nat) : Int) := by rw [w64] <;> omega
    rw [e1, e2, e3, e4, e5, e6]
    refine ih (i + 1) _ _ (by omega) (by simp; omega) (by omega) (by omega) ?_
    rw [show addc (m + 1) c (a.drop i) (b.drop i) = ((a.drop i).getD 0 0 + (b.drop i).getD 0 0 + c) % 1000000 :: addc m (((a.drop i).getD 0 0 + (b.drop i).getD 0 0 + c) / 1000000) ((a.drop i).drop 1) ((b.drop i).drop 1) from rfl] at hv
    rw [getD_drop0, getD_drop0, List.drop_drop, List.drop_drop] at hv
    rw [List.append_assoc]
    exact hv
/-! ### differences -/
def subc : Nat → Int → List Int → List Int → List Int
  | 0, _, _, _ => []
  | n + 1, c, a, b => if a.getD 0 0 - b.getD 0 0 - c < 0 then (a.getD 0 0 - b.getD 0 0 - c + 1000000) :: subc n 1 (a.drop 1) (b.drop 1) else (a.getD 0 0 - b.getD 0 0 - c) :: subc n 0 (a.drop 1) (b.drop 1)
theorem subc_len : ∀ (n : Nat) (c : Int) (a b : List Int), (subc n c a b).length = n
  | 0, _, _, _ => rfl
  | n + 1, c, a, b => by
    unfold subc
    split <;> simp [subc_len n]
theorem subc_vl : ∀ (n : Nat) (c : Int) (a b : List Int), Dg a → Dg b → 0 ≤ c → c ≤ 1 → Dg (subc n c a b) ∧ (vl b + c ≤ vl a → a.length ≤ n → vl (subc n c a b) = vl a - vl b - c)
  | 0, c, a, b, ha, hb, h0, h1 => by
    refine ⟨Dg.nil, fun h hl => ?_⟩
    have : a = [] := List.length_eq_zero_iff.1 (by omega)
    subst this
    have := vl_nonneg hb
    show (0 : Int) = _
    simp only [vl] at h ⊢
    omega
  | n + 1, c, a, b, ha, hb, h0, h1 => by
    have g1 := ha.getD 0
    have g2 := hb.getD 0
    have e1 := vl_drop a 0
    have e2 := vl_drop b 0
    simp only [List.drop_zero, Nat.zero_add] at e1 e2
    have i1 := subc_vl n 1 (a.drop 1) (b.drop 1) (ha.drop 1) (hb.drop 1) (by omega) (by omega)
    have i0 := subc_vl n 0 (a.drop 1) (b.drop 1) (ha.drop 1) (hb.drop 1) (by omega) (by omega)
    unfold subc
    by_cases hc : a.getD 0 0 - b.getD 0 0 - c < 0
    · rw [if_pos hc]
      refine ⟨Dg.cons (by omega) (by omega) i1.1, fun h hl => ?_⟩
      show _ + 1000000 * vl (subc n 1 _ _) = _
      rw [i1.2 (by omega) (by simp; omega)]
      omega
    · rw [if_neg hc]
      refine ⟨Dg.cons (by omega) (by omega) i0.1, fun h hl => ?_⟩
      show _ + 1000000 * vl (subc n 0 _ _) = _
      rw [i0.2 (by omega) (by simp; omega)]
      omega
theorem r_Plus_l0 (a b : List Int) (ha : Dg a) (hb : Dg b) (na nb neg : Bool) (hN : a.length < 17592186044416) : ∀ (m i : Nat) (c : Int) (acc : List Int), m + i = a.length → acc.length = i → 0 ≤ c → c ≤ 1 → ∀ {v : Bool × List Int}, Tends (fun k => interchangeref1_trimmed.f k neg (acc ++ subc m c (a.drop i) (b.drop i))) v → Tends (fun k => interchangeref1_Plus_fo.l0 k c (a.length : Int) (i : Int) na a nb b neg acc) v := by
  intro m
  induction m with
  | zero =>
    intro i c acc hi hacc h0 h1 v hv
    refine Tends.step (fun k => by rw [interchangeref1_Plus_fo.l0]) ?_
    simp only [if_neg (show ¬ (i : Int) < (a.length : Int) by omega)]
    rw [show subc 0 c (a.drop i) (b.drop i) = [] from rfl, List.append_nil] at hv
    exact Tends.bind hv (Tends.const _)
  | succ m ih =>
    intro i c acc hi hacc h0 h1 v hv
    refine Tends.step (fun k => by rw [interchangeref1_Plus_fo.l0]) ?_
    have g1 := ha.getD i
    have g2 := hb.getD i
    simp only [if_pos (show (i : Int) < (a.length : Int) by omega), if_pos (show (0 : Int) ≤ (i : Int) by omega), r_digit, rd_nat, Option.bind_some, if_pos (show acc.length < 17592186044416 by omega)]
    have e1 : wrap64 (a.getD i 0 - b.getD i 0) = a.getD i 0 - b.getD i 0 := w64 (by omega) (by omega)
    have e2 : wrap64 (a.getD i 0 - b.getD i 0 - c) = a.getD i 0 - b.getD i 0 - c := w64 (by omega) (by omega)
    have e3 : wrap64 (a.getD i 0 - b.getD i 0 - c + 1000000) = a.getD i 0 - b.getD i 0 - c + 1000000 := w64 (by omega) (by omega)
    have e6 : wrap64 ((i : Int) + 1) = ((i + 1 : Nat) : Int) := by rw [w64] <;> omega
    rw [e1, e2, e3, e6]
    unfold subc at hv
    rw [getD_drop0, getD_drop0, List.drop_drop, List.drop_drop] at hv
    by_cases hc : a.getD i 0 - b.getD i 0 - c < 0
    · simp only [if_pos hc] at hv ⊢
      refine ih (i + 1) _ _ (by omega) (by simp; omega) (by omega) (by omega) ?_
      rw [List.append_assoc]
      exact hv
    · simp only [if_neg hc] at hv ⊢
      refine ih (i + 1) _ _ (by omega) (by simp; omega) (by omega) (by omega) ?_
      rw [List.append_assoc]
      exact hv
theorem r_Plus_th_l0 (a b : List Int) (ha : Dg a) (hb : Dg b) (na nb neg : Bool) (hN : a.length < 17592186044416) : ∀ (m i : Nat) (c : Int) (acc : List Int), m + i = a.length → acc.length = i → 0 ≤ c → c ≤ 1 → ∀ {v : Bool × List Int}, Tends (fun k => interchangeref1_trimmed.f k neg (acc ++ subc m c (a.drop i) (b.drop i))) v → Tends (fun k => interchangeref1_Plus_th.l0 k c (a.length : Int) (i : Int) na a nb b neg acc) v := by
  intro m
  induction m with
  | zero =>
    intro i c acc hi hacc h0 h1 v hv
    refine Tends.step (fun k => by rw [interchangeref1_Plus_th.l0]) ?_
    simp only [if_neg (show ¬ (i : Int) < (a.length : Int) by omega)]
    rw [show subc 0 c (a.drop i) (b.drop i) = [] from rfl, List.append_nil] at hv
    exact Tends.bind hv (Tends.const _)
  | succ m ih =>
    intro i c acc hi hacc h0 h1 v hv
    refine Tends.step (fun k => by rw [interchangeref1_Plus_th.l0]) ?_
    have g1 := ha.getD i
    have g2 := hb.getD i
    simp only [if_pos (show (i : Int) < (a.length : Int) by omega), if_pos (show (0 : Int) ≤ (i : Int) by omega), r_digit, rd_nat, Option.bind_some, if_pos (show acc.length < 17592186044416 by omega)]
    have e1 : wrap64 (a.getD i 0 - b.getD i 0) = a.getD i 0 - b.getD i 0 := w64 (by omega) (by omega)
    have e2 : wrap64 (a.getD i 0 - b.getD i 0 - c) = a.getD i 0 - b.getD i 0 - c := w64 (by omega) (by omega)
    have e3 : wrap64 (a.getD i 0 - b.getD i 0 - c + 1000000) = a.getD i 0 - b.getD i 0 - c + 1000000 := w64 (by omega) (by omega)
    have e6 : wrap64 ((i : Int) + 1) = ((i + 1 : Nat) : Int) := by rw [w64] <;> omega
    rw [e1, e2, e3, e6]
    unfold subc at hv
    rw [getD_drop0, getD_drop0, List.drop_drop, List.drop_drop] at hv
    by_cases hc : a.getD i 0 - b.getD i 0 - c < 0
    · simp only [if_pos hc] at hv ⊢
      refine ih (i + 1) _ _ (by omega) (by simp; omega) (by omega) (by omega) ?_
      rw [List.append_assoc]
      exact hv
    · simp only [if_neg hc] at hv ⊢
      refine ih (i + 1) _ _ (by omega) (by simp; omega) (by omega) (by omega) ?_
      rw [List.append_assoc]
      exact hv
/-- the sum of two numbers' digits is less than what so many places hold -/
theorem vl_lt_pow : ∀ {l : List Int}, Dg l → vl l < 1000000 ^ l.length
  | [], _ => by simp [vl]
  | d :: r, h => by
    have := vl_lt_pow h.tail
    have h1 := h.head
    rw [List.length_cons, Int.pow_succ]
    show d + 1000000 * vl r < _
    omega
theorem pow6_pos : ∀ n : Nat, 0 < (1000000 : Int) ^ n
  | 0 => by simp
  | n + 1 => by
    have := pow6_pos n
    rw [Int.pow_succ]
    omega
theorem pow_mono6 {a b : Nat} (h : a ≤ b) : (1000000 : Int) ^ a ≤ 1000000 ^ b := by
  induction h with
  | refl => exact Int.le_refl _
  | step _ ih =>
    rw [Int.pow_succ]
    have := pow6_pos a
    omega
/-- how long a number is -/
def Lo (n : Int) : Prop := (dgs n.natAbs).length < 8796093022208
theorem r_Plus_fo_same {m n : Nat} (neg : Bool) (hm : (dgs m).length < 8796093022208) (hn : (dgs n).length < 8796093022208) : Tends (fun k => interchangeref1_Plus_fo.f k neg (dgs m) neg (dgs n)) ((if m + n = 0 then false else neg), dgs (m + n)) := by
  unfold interchangeref1_Plus_fo.f
  have e0 : ¬ (!(neg == neg)) = true := by simp
  simp only [if_neg e0]
  have v1 := vl_dgs m
  have v2 := vl_dgs n
  have p1 := vl_lt_pow (dgs_Dg m)
  have p2 := vl_lt_pow (dgs_Dg n)
  have key : ∀ N : Nat, (dgs m).length + 1 ≤ N → (dgs n).length + 1 ≤ N → N < 17592186044416 → Tends (fun k => interchangeref1_Plus_fo.l1 k 0 (N : Int) 0 neg (dgs m) neg (dgs n) neg []) ((if m + n = 0 then false else neg), dgs (m + n)) := by
    intro N h1 h2 h3
    have q1 := pow_mono6 h1
    have q2 := pow_mono6 h2
    rw [Int.pow_succ] at q1 q2
    refine r_Plus_l1 (dgs m) (dgs n) (dgs_Dg m) (dgs_Dg n) neg neg neg N h3 N 0 0 [] (by omega) rfl (by omega) (by omega) ?_
    have hv := addc_vl N 0 (dgs m) (dgs n) (dgs_Dg m) (dgs_Dg n) (by omega) (by omega)
    simp only [List.drop_zero, List.nil_append]
    refine r_trim (by rw [addc_len]; omega) hv.1 ?_
    rw [hv.2 (by omega)]
    omega
  by_cases h : ((dgs m).length : Int) < ((dgs n).length : Int)
  · simp only [if_pos h]
    rw [show wrap64 (((dgs n).length : Int) + 1) = (((dgs n).length + 1 : Nat) : Int) by rw [w64] <;> omega]
    exact key _ (by omega) (by omega) (by omega)
  · simp only [if_neg h]
    rw [show wrap64 (((dgs m).length : Int) + 1) = (((dgs m).length + 1 : Nat) : Int) by rw [w64] <;> omega]
    exact key _ (by omega) (by omega) (by omega)
theorem r_Plus {a b : Int} (ha : Lo a) (hb : Lo b) : Tends (fun k => interchangeref1_Plus.f k (enc a).1 (enc a).2 (enc b).1 (enc b).2) (enc (a + b)) := by
  unfold Lo at ha hb
  unfold interchangeref1_Plus.f enc
  dsimp only
  by_cases hs : decide (a < 0) = decide (b < 0)
  · have e0 : ¬ (!(decide (a < 0) == decide (b < 0))) = true := by simp [hs]
    simp only [if_neg e0]
    have h := r_Plus_fo_same (m := a.natAbs) (n := b.natAbs) (decide (b < 0)) ha hb
    rw [hs]
    have hs' : a < 0 ↔ b < 0 := by simpa using hs
    have e1 : a.natAbs + b.natAbs = (a + b).natAbs := by omega
    rw [e1] at h
    have e2 : (if (a + b).natAbs = 0 then false else decide (b < 0)) = decide (a + b < 0) := by
      split
      · symm
        apply decide_eq_false
        omega
      · congr 1
        apply propext
        omega
    rw [e2] at h
    exact h
  · have e0 : (!(decide (a < 0) == decide (b < 0))) = true := by simpa using hs
    simp only [if_pos e0]
    have hs' : ¬ (a < 0 ↔ b < 0) := by simpa using hs
    obtain ⟨t, ht, htl⟩ := r_sizes (m := a.natAbs) (n := b.natAbs) (by omega) (by omega)
    refine Tends.bind ht ?_
    by_cases h : t < 0
    · simp only [if_pos h]
      have hlt := htl.1 h
      unfold interchangeref1_Plus_th.f
      simp only [if_pos e0]
      refine Tends.bind ht ?_
      simp only [if_pos h]
      have hv := subc_vl (dgs b.natAbs).length 0 (dgs b.natAbs) (dgs a.natAbs) (dgs_Dg _) (dgs_Dg _) (by omega) (by omega)
      rw [vl_dgs, vl_dgs] at hv
      refine r_Plus_th_l0 (dgs b.natAbs) (dgs a.natAbs) (dgs_Dg _) (dgs_Dg _) _ _ _ (by omega) (dgs b.natAbs).length 0 0 [] (by omega) rfl (by omega) (by omega) ?_
      simp only [List.drop_zero, List.nil_append]
      have hr := r_trim (neg := decide (b < 0)) (m := (a + b).natAbs) (by rw [subc_len]; omega) hv.1 (by rw [hv.2 (by omega) (Nat.le_refl _)]; omega)
      have e2 : (if (a + b).natAbs = 0 then false else decide (b < 0)) = decide (a + b < 0) := by
        split
        · symm
          apply decide_eq_false
          omega
        · congr 1
          apply propext
          omega
      rw [e2] at hr
      exact hr
    · simp only [if_neg h]
      have hge : b.natAbs ≤ a.natAbs := by
        by_cases q : a.natAbs < b.natAbs
        · exact absurd (htl.2 q) h
        · omega
      unfold interchangeref1_Plus_fo.f
      simp only [if_pos e0]
      refine Tends.bind ht ?_
      simp only [if_neg h]
      have hv := subc_vl (dgs a.natAbs).length 0 (dgs a.natAbs) (dgs b.natAbs) (dgs_Dg _) (dgs_Dg _) (by omega) (by omega)
      rw [vl_dgs, vl_dgs] at hv
      refine r_Plus_l0 (dgs a.natAbs) (dgs b.natAbs) (dgs_Dg _) (dgs_Dg _) _ _ _ (by omega) (dgs a.natAbs).length 0 0 [] (by omega) rfl (by omega) (by omega) ?_
      simp only [List.drop_zero, List.nil_append]
      have hr := r_trim (neg := decide (a < 0)) (m := (a + b).natAbs) (by rw [subc_len]; omega) hv.1 (by rw [hv.2 (by omega) (Nat.le_refl _)]; omega)
      have e2 : (if (a + b).natAbs = 0 then false else decide (a < 0)) = decide (a + b < 0) := by
        split
        · symm
          apply decide_eq_false
          omega
        · congr 1
          apply propext
          omega
      rw [e2] at hr
      exact hr
theorem Lo.neg {a : Int} (h : Lo a) : Lo (-a) := by
  unfold Lo at h ⊢
  rw [Int.natAbs_neg]
  exact h
theorem r_Cmp {a b : Int} (ha : Lo a) (hb : Lo b) : Tends (fun k => interchangeref1_Cmp.f k (enc a).1 (enc a).2 (enc b).1 (enc b).2) (a - b).sign := by
  unfold interchangeref1_Cmp.f
  simp only [r_Minus, Option.bind_some]
  refine Tends.bind (r_Plus ha hb.neg) ?_
  simp only [r_Sign, Option.bind_some]
  rw [Int.sub_eq_add_neg]
  exact Tends.const _
/-! ### products -/
theorem vl_set : ∀ (l : List Int) (p : Nat) (v : Int), p < l.length → vl (l.set p v) = vl l + (v - l.getD p 0) * 1000000 ^ p
  | [], p, v, h => by simp at h
  | d :: r, 0, v, _ => by
    show v + 1000000 * vl r = d + 1000000 * vl r + (v - d) * 1
    omega
  | d :: r, p + 1, v, h => by
    have ih := vl_set r p v (by simpa using h)
    show d + 1000000 * vl (r.set p v) = d + 1000000 * vl r + (v - r.getD p 0) * 1000000 ^ (p + 1)
    rw [ih, Int.pow_succ]
    grind
theorem getD_set (l : List Int) (p q : Nat) (v : Int) (hp : p < l.length) : (l.set p v).getD q 0 = if q = p then v else l.getD q 0 := by
  by_cases h : q = p
  · subst h
    simp [hp]
  · simp only [List.getD_eq_getElem?_getD, List.getElem?_set]
    have h' : ¬ p = q := fun e => h e.symm
    simp [h, h']
theorem set_getD (l : List Int) (p : Nat) (hp : p < l.length) : l.set p (l.getD p 0) = l := by
  apply List.ext_getElem?
  intro i
  rw [List.getElem?_set]
  by_cases h : p = i
  · subst h
    simp [hp]
  · simp [h]
/-- in a row of the product: the place that is written may hold more for a while -/
def RowI (n i j lb : Nat) (out : List Int) : Prop :=
  out.length = n ∧ (∀ q, 0 ≤ out.getD q 0) ∧ (∀ q, q ≠ i + j → out.getD q 0 < 1000000) ∧ out.getD (i + j) 0 ≤ 1999998 ∧ (∀ q, i + lb ≤ q → q ≠ i + j → out.getD q 0 = 0) ∧ (j = lb → out.getD (i + j) 0 < 1000000)
theorem r_TimesOf_l1 (a b : List Int) (ha : Dg a) (hb : Dg b) (nb neg : Bool) (n : Nat) (hn : n = a.length + b.length + 1) (hbig : n ≤ 35184372088832) (i : Nat) (hi : i < a.length) : ∀ (m j : Nat) (out : List Int), m + j = b.length → RowI n i j b.length out →
    ∃ out' : List Int, RowI n i b.length b.length out' ∧ vl out' = vl out + a.getD i 0 * vl (b.drop j) * 1000000 ^ (i + j) ∧ ∀ {v : Bool × List Int}, Tends (fun k => interchangeref1_TimesOf.l0 k a (a.length : Int) ((i + 1 : Nat) : Int) nb b neg out') v → Tends (fun k => interchangeref1_TimesOf.l1 k (i : Int) (a.getD i 0) a (a.length : Int) (i : Int) b (b.length : Int) (j : Int) nb b neg out) v := by
  intro m
  induction m with
  | zero =>
    intro j out hm hI
    have hj : j = b.length := by omega
    subst hj
    refine ⟨out, hI, ?_, ?_⟩
    · rw [List.drop_eq_nil_of_le (Nat.le_refl _)]
      simp [vl]
    · intro v hv
      refine Tends.step (fun k => by rw [interchangeref1_TimesOf.l1]) ?_
      simp only [if_neg (show ¬ (b.length : Int) < (b.length : Int) by omega)]
      rw [show wrap64 ((i : Int) + 1) = ((i + 1 : Nat) : Int) by rw [w64] <;> omega]
      exact hv
  | succ m ih =>
    intro j out hm hI
    have w1 : wrap64 ((i : Int) + (j : Int)) = ((i + j : Nat) : Int) := by rw [w64] <;> omega
    have w2 : wrap64 (((i + j : Nat) : Int) + 1) = ((i + j + 1 : Nat) : Int) := by rw [w64] <;> omega
    have w3 : wrap64 ((j : Int) + 1) = ((j + 1 : Nat) : Int) := by rw [w64] <;> omega
    have hol := hI.1
    have c1 : (j : Int) < (b.length : Int) := by omega
    have c2 : (0 : Int) ≤ (j : Int) := by omega
    have c3 : (0 : Int) ≤ ((i + j : Nat) : Int) := by omega
    have c4 : ((i + j : Nat) : Int) < (out.length : Int) := by omega
    have c5 : (0 : Int) ≤ ((i + j + 1 : Nat) : Int) := by omega
    have c6 : ((i + j + 1 : Nat) : Int) < (out.length : Int) := by omega
    obtain ⟨h1, h2, h3, h4, h5, h6⟩ := hI
    have ga := ha.getD i
    have gb := hb.getD j
    have hx0 : 0 ≤ a.getD i 0 * b.getD j 0 := Int.mul_nonneg ga.1 gb.1
    have hx1 : a.getD i 0 * b.getD j 0 ≤ 999999 * 999999 := Int.mul_le_mul (by omega) (by omega) gb.1 (by omega)
    obtain ⟨x, hx⟩ : ∃ x, a.getD i 0 * b.getD j 0 = x := ⟨_, rfl⟩
    rw [hx] at hx0 hx1
    obtain ⟨o, ho⟩ : ∃ o, out.getD (i + j) 0 = o := ⟨_, rfl⟩
    obtain ⟨o1, ho1⟩ : ∃ o1, out.getD (i + j + 1) 0 = o1 := ⟨_, rfl⟩
    have q0 := h2 (i + j)
    have q1 := h2 (i + j + 1)
    have q2 := h3 (i + j + 1) (by omega)
    rw [ho] at q0 h4
    rw [ho1] at q1 q2
    have k0 : 0 ≤ (o + x) / 1000000 := by omega
    have k1 : (o + x) / 1000000 ≤ 999999 := by omega
    have k2 : 0 ≤ (o + x) % 1000000 := by omega
    have k3 : (o + x) % 1000000 < 1000000 := by omega
    have k4 := Int.emod_add_mul_ediv (o + x) 1000000
    have l1 : (out.set (i + j) (o + x)).length = out.length := by simp
    have l2 : ((out.set (i + j) (o + x)).set (i + j + 1) (o1 + (o + x) / 1000000)).length = out.length := by simp
    have s1 : (out.set (i + j) (o + x)).getD (i + j) 0 = o + x := by rw [getD_set _ _ _ _ (by omega), if_pos rfl]
    have s2 : (out.set (i + j) (o + x)).getD (i + j + 1) 0 = o1 := by rw [getD_set _ _ _ _ (by omega), if_neg (by omega), ho1]
    have s3 : ((out.set (i + j) (o + x)).set (i + j + 1) (o1 + (o + x) / 1000000)).getD (i + j) 0 = o + x := by rw [getD_set _ _ _ _ (by omega), if_neg (by omega), s1]
    have u0 : wrap64 x = x := w64 (by omega) (by omega)
    have u1 : wrap64 (o + x) = o + x := w64 (by omega) (by omega)
    have u2 : (o + x).tdiv 1000000 = (o + x) / 1000000 := Int.tdiv_eq_ediv_of_nonneg (by omega)
    have u3 : (o + x).tmod 1000000 = (o + x) % 1000000 := Int.tmod_eq_emod_of_nonneg (by omega)
    have u4 : wrap64 ((o + x) / 1000000) = (o + x) / 1000000 := w64 (by omega) (by omega)
    have u5 : wrap64 (o1 + (o + x) / 1000000) = o1 + (o + x) / 1000000 := w64 (by omega) (by omega)
    obtain ⟨out', hout'⟩ : ∃ z, ((out.set (i + j) (o + x)).set (i + j + 1) (o1 + (o + x) / 1000000)).set (i + j) ((o + x) % 1000000) = z := ⟨_, rfl⟩
    have hlen' : out'.length = n := by rw [← hout']; simp [h1]
    have g' : ∀ q, out'.getD q 0 = if q = i + j then (o + x) % 1000000 else if q = i + j + 1 then o1 + (o + x) / 1000000 else out.getD q 0 := by
      intro q
      rw [← hout', getD_set _ _ _ _ (by omega), getD_set _ _ _ _ (by omega), getD_set _ _ _ _ (by omega)]
      by_cases e : q = i + j
      · simp [e]
      · simp [e]
    have hval : vl out' = vl out + x * 1000000 ^ (i + j) := by
      rw [← hout', vl_set _ _ _ (by omega), vl_set _ _ _ (by omega), vl_set _ _ _ (by omega), s2, s3, ho, Int.pow_succ]
      clear g' s1 s2 s3 l1 l2 u0 u1 u2 u3 u4 u5 hout' hlen' h2 h3 h5 h6 ha hb ih
      grind
    have hI' : RowI n i (j + 1) b.length out' := by
      refine ⟨hlen', ?_, ?_, ?_, ?_, ?_⟩
      · intro q
        rw [g']
        have := h2 q
        split
        · omega
        · split <;> omega
      · intro q hq
        rw [g']
        have := h3 q
        split
        · omega
        · split
          · omega
          · rename_i e _
            exact this e
      · rw [show i + (j + 1) = i + j + 1 by omega, g']
        simp only [if_neg (show ¬ i + j + 1 = i + j by omega), if_true]
        omega
      · intro q hq hq2
        rw [g']
        simp only [if_neg (show ¬ q = i + j by omega), if_neg (show ¬ q = i + j + 1 by omega)]
        exact h5 q hq (by omega)
      · intro e
        rw [show i + (j + 1) = i + j + 1 by omega, g']
        simp only [if_neg (show ¬ i + j + 1 = i + j by omega), if_true]
        have := h5 (i + j + 1) (by omega) (by omega)
        rw [ho1] at this
        omega
    obtain ⟨out2, hI2, hv2, ht2⟩ := ih (j + 1) out' (by omega) hI'
    refine ⟨out2, hI2, ?_, ?_⟩
    · rw [hv2, hval, vl_drop b j, ← hx, show i + (j + 1) = i + j + 1 by omega, Int.pow_succ]
      grind
    · intro v hv
      refine Tends.step (fun k => by rw [interchangeref1_TimesOf.l1]) ?_
      simp only [if_pos c1, if_pos c2, w1, w2, w3, rd_nat, Option.bind_some, Int.toNat_natCast]
      simp only [if_pos c3, if_pos c4, if_pos c5, if_pos c6]
      rw [hx, ho, u0, u1, s1, s2, u2, u4, u5, s3, u3, hout']
      exact ht2 hv
theorem Dg.of_getD {l : List Int} (h : ∀ q, 0 ≤ l.getD q 0 ∧ l.getD q 0 < 1000000) : Dg l := by
  intro d hd
  obtain ⟨i, hi, rfl⟩ := List.getElem_of_mem hd
  have := h i
  simpa [hi] using this
theorem r_TimesOf_l0 (a b : List Int) (ha : Dg a) (hb : Dg b) (nb neg : Bool) (n : Nat) (hn : n = a.length + b.length + 1) (hbig : n ≤ 35184372088832) : ∀ (m i : Nat) (out : List Int), m + i = a.length → RowI n i 0 b.length out → (∀ q, out.getD q 0 < 1000000) →
    ∃ out' : List Int, Dg out' ∧ out'.length = n ∧ vl out' = vl out + vl (a.drop i) * vl b * 1000000 ^ i ∧ ∀ {v : Bool × List Int}, Tends (fun k => interchangeref1_TimesOf.l2 k ((n : Int) - 1) 0 neg out') v → Tends (fun k => interchangeref1_TimesOf.l0 k a (a.length : Int) (i : Int) nb b neg out) v := by
  intro m
  induction m with
  | zero =>
    intro i out hm hI hall
    have hi : i = a.length := by omega
    subst hi
    refine ⟨out, Dg.of_getD fun q => ⟨hI.2.1 q, hall q⟩, hI.1, ?_, ?_⟩
    · rw [List.drop_eq_nil_of_le (Nat.le_refl _)]
      simp [vl]
    · intro v hv
      refine Tends.step (fun k => by rw [interchangeref1_TimesOf.l0]) ?_
      simp only [if_neg (show ¬ (a.length : Int) < (a.length : Int) by omega)]
      rw [hI.1, show wrap64 ((n : Int) - 1) = (n : Int) - 1 from w64 (by omega) (by omega)]
      exact hv
  | succ m ih =>
    intro i out hm hI hall
    obtain ⟨out1, hI1, hv1, ht1⟩ := r_TimesOf_l1 a b ha hb nb neg n hn hbig i (by omega) b.length 0 out (by omega) hI
    obtain ⟨h1, h2, h3, h4, h5, h6⟩ := hI1
    have hall1 : ∀ q, out1.getD q 0 < 1000000 := by
      intro q
      by_cases e : q = i + b.length
      · rw [e]
        exact h6 rfl
      · exact h3 q e
    have hI2 : RowI n (i + 1) 0 b.length out1 := by
      refine ⟨h1, h2, fun q _ => hall1 q, ?_, ?_, fun _ => hall1 _⟩
      · have := hall1 (i + 1 + 0)
        omega
      · intro q hq hq2
        exact h5 q (by omega) (by omega)
    obtain ⟨out2, hd2, hl2, hv2, ht2⟩ := ih (i + 1) out1 (by omega) hI2 hall1
    refine ⟨out2, hd2, hl2, ?_, ?_⟩
    · rw [hv2, hv1, vl_drop a i, Int.pow_succ, List.drop_zero, Nat.add_zero]
      clear ih ht1 ht2 hI hI2 h1 h2 h3 h4 h5 h6 hall hall1 hd2 hl2 hv2 hv1
      grind
    · intro v hv
      refine Tends.step (fun k => by rw [interchangeref1_TimesOf.l0]) ?_
      simp only [if_pos (show (i : Int) < (a.length : Int) by omega), if_pos (show (0 : Int) ≤ (i : Int) by omega), rd_nat]
      exact ht1 (ht2 hv)
theorem r_TimesOf_l2 (neg : Bool) (out : List Int) (hd : Dg out) (hbig : out.length ≤ 35184372088832) {v : Bool × List Int} (hv : Tends (fun k => interchangeref1_trimmed.f k neg out) v) : ∀ (m i : Nat), m + i + 1 = out.length → Tends (fun k => interchangeref1_TimesOf.l2 k ((out.length : Int) - 1) (i : Int) neg out) v := by
  intro m
  induction m with
  | zero =>
    intro i hi
    refine Tends.step (fun k => by rw [interchangeref1_TimesOf.l2]) ?_
    simp only [if_neg (show ¬ (i : Int) < (out.length : Int) - 1 by omega)]
    exact Tends.bind hv (Tends.const _)
  | succ m ih =>
    intro i hi
    refine Tends.step (fun k => by rw [interchangeref1_TimesOf.l2]) ?_
    have g0 := hd.getD i
    have g1 := hd.getD (i + 1)
    have w1 : wrap64 ((i : Int) + 1) = ((i + 1 : Nat) : Int) := by rw [w64] <;> omega
    have u2 : (out.getD i 0).tdiv 1000000 = 0 := by
      rw [Int.tdiv_eq_ediv_of_nonneg g0.1]
      omega
    have u3 : (out.getD i 0).tmod 1000000 = out.getD i 0 := by
      rw [Int.tmod_eq_emod_of_nonneg g0.1]
      omega
    have u4 : wrap64 0 = 0 := w64 (by omega) (by omega)
    have u5 : wrap64 (out.getD (i + 1) 0 + 0) = out.getD (i + 1) 0 := by rw [w64] <;> omega
    simp only [w1, rd_nat, Option.bind_some, Int.toNat_natCast]
    simp only [if_pos (show (i : Int) < (out.length : Int) - 1 by omega), if_pos (show (0 : Int) ≤ (i : Int) by omega), if_pos (show (i : Int) < (out.length : Int) by omega), if_pos (show (0 : Int) ≤ ((i + 1 : Nat) : Int) by omega), if_pos (show ((i + 1 : Nat) : Int) < (out.length : Int) by omega)]
    rw [u2, u4, u5, set_getD _ _ (by omega), u3, set_getD _ _ (by omega)]
    exact ih (i + 1) (by omega)
theorem vl_replicate : ∀ n : Nat, vl (List.replicate n 0) = 0
  | 0 => rfl
  | n + 1 => by
    rw [List.replicate_succ]
    show 0 + 1000000 * vl (List.replicate n 0) = 0
    rw [vl_replicate n]
    rfl
theorem getD_replicate (n q : Nat) : (List.replicate n (0 : Int)).getD q 0 = 0 := by
  rw [List.getD_eq_getElem?_getD, List.getElem?_replicate]
  split <;> rfl
theorem enc_mul_sign (a b : Int) : (if (a * b).natAbs = 0 then false else !(decide (a < 0) == decide (b < 0))) = decide (a * b < 0) := by
  rcases Int.lt_trichotomy a 0 with ha | ha | ha
  · rcases Int.lt_trichotomy b 0 with hb | hb | hb
    · have := Int.mul_pos_of_neg_of_neg ha hb
      have h1 : ¬ a * b < 0 := by omega
      have h2 : ¬ (a * b).natAbs = 0 := by omega
      simp [ha, hb, h1, h2]
    · subst hb
      simp
    · have := Int.mul_neg_of_neg_of_pos ha hb
      have h2 : ¬ (a * b).natAbs = 0 := by omega
      have h3 : ¬ b < 0 := by omega
      simp [ha, this, h2, h3]
  · subst ha
    simp
  · rcases Int.lt_trichotomy b 0 with hb | hb | hb
    · have := Int.mul_neg_of_pos_of_neg ha hb
      have h2 : ¬ (a * b).natAbs = 0 := by omega
      have h3 : ¬ a < 0 := by omega
      simp [hb, this, h2, h3]
    · subst hb
      simp
    · have := Int.mul_pos ha hb
      have h1 : ¬ a * b < 0 := by omega
      have h2 : ¬ (a * b).natAbs = 0 := by omega
      have h3 : ¬ a < 0 := by omega
      have h4 : ¬ b < 0 := by omega
      simp [h1, h3, h4]
theorem r_TimesOf {a b : Int} (ha : Lo a) (hb : Lo b) : Tends (fun k => interchangeref1_TimesOf.f k (enc a).1 (enc a).2 (enc b).1 (enc b).2) (enc (a * b)) := by
  unfold Lo at ha hb
  unfold interchangeref1_TimesOf.f enc
  dsimp only
  obtain ⟨n, hn⟩ : ∃ n : Nat, n = (dgs a.natAbs).length + (dgs b.natAbs).length + 1 := ⟨_, rfl⟩
  have w1 : wrap64 (((dgs a.natAbs).length : Int) + ((dgs b.natAbs).length : Int)) = ((dgs a.natAbs).length : Int) + ((dgs b.natAbs).length : Int) := w64 (by omega) (by omega)
  have w2 : wrap64 (((dgs a.natAbs).length : Int) + ((dgs b.natAbs).length : Int) + 1) = (n : Int) := by rw [w64] <;> omega
  simp only [w1, w2, Int.toNat_natCast, if_pos (show (0 : Int) ≤ (n : Int) by omega), if_pos (show n ≤ 35184372088832 by omega)]
  have hI : RowI n 0 0 (dgs b.natAbs).length (List.replicate n 0) := by
    exact ⟨by simp, fun q => by rw [getD_replicate]; omega, fun q _ => by rw [getD_replicate]; omega, by rw [getD_replicate]; omega, fun q _ _ => getD_replicate _ _, fun _ => by rw [getD_replicate]; omega⟩
  obtain ⟨out, hd, hl, hv, ht⟩ := r_TimesOf_l0 (dgs a.natAbs) (dgs b.natAbs) (dgs_Dg _) (dgs_Dg _) (decide (b < 0)) (!(decide (a < 0) == decide (b < 0))) n hn (by omega) (dgs a.natAbs).length 0 (List.replicate n 0) (by omega) hI (by intro q; rw [getD_replicate]; omega)
  refine ht ?_
  rw [vl_replicate, List.drop_zero, vl_dgs, vl_dgs] at hv
  have hm : vl out = ((a * b).natAbs : Int) := by
    rw [hv, Int.natAbs_mul]
    simp
  have hr := r_trim (neg := !(decide (a < 0) == decide (b < 0))) (by omega) hd hm
  rw [enc_mul_sign] at hr
  have := r_TimesOf_l2 (!(decide (a < 0) == decide (b < 0))) out hd (by omega) hr (n - 1) 0 (by omega)
  rw [hl] at this
  exact this
/-! ### powers of ten -/
theorem pow10_lt (j : Nat) (h : j ≤ 180) : (10 : Nat) ^ j < 1000000 ^ 31 := by
  have h1 : (10 : Nat) ^ j ≤ 10 ^ 180 := Nat.pow_le_pow_right (by omega) h
  have h2 : (1000000 : Nat) ^ 31 = 10 ^ 186 := by
    rw [show (1000000 : Nat) = 10 ^ 6 from rfl, ← Nat.pow_mul]
  rw [h2]
  have h3 : (10 : Nat) ^ 186 = 10 ^ 180 * 10 ^ 6 := by rw [← Nat.pow_add]
  have h4 : 0 < (10 : Nat) ^ 180 := Nat.pow_pos (by omega)
  rw [h3]
  omega
theorem Lo_pow10 {j : Nat} (h : j ≤ 180) : Lo ((10 : Int) ^ j) := by
  unfold Lo
  have e : ((10 : Int) ^ j).natAbs = 10 ^ j := by
    rw [Int.natAbs_pow]
    rfl
  rw [e]
  have := dgs_len_pow 31 _ (pow10_lt j h)
  omega
theorem Lo_small {n : Int} (h0 : -9223372036854775808 ≤ n) (h1 : n ≤ 9223372036854775807) : Lo n := by
  unfold Lo
  have := dgs_len_pow 4 n.natAbs (by
    have : (1000000 : Nat) ^ 4 = 1000000000000000000000000 := by rfl
    omega)
  omega
theorem r_Power_l0 (n : Nat) (hn : n ≤ 180) : ∀ (m i : Nat), m + i = n → Tends (fun k => interchangeref1_Power.l0 k (n : Int) (i : Int) (enc ((10 : Int) ^ i)).1 (enc ((10 : Int) ^ i)).2) (enc ((10 : Int) ^ n)) := by
  intro m
  induction m with
  | zero =>
    intro i hi
    have : i = n := by omega
    subst this
    refine Tends.step (fun k => by rw [interchangeref1_Power.l0]) ?_
    simp only [if_neg (show ¬ (i : Int) < (i : Int) by omega)]
    exact Tends.const _
  | succ m ih =>
    intro i hi
    refine Tends.step (fun k => by rw [interchangeref1_Power.l0]) ?_
    simp only [if_pos (show (i : Int) < (n : Int) by omega)]
    refine Tends.bind (r_Of (n := 10) (by omega) (by omega)) ?_
    refine Tends.bind (r_TimesOf (Lo_pow10 (j := i) (by omega)) (Lo_small (n := 10) (by omega) (by omega))) ?_
    rw [show wrap64 ((i : Int) + 1) = ((i + 1 : Nat) : Int) by rw [w64] <;> omega]
    have := ih (i + 1) (by omega)
    rw [Int.pow_succ] at this
    exact this
theorem r_Power {n : Nat} (hn : n ≤ 180) : Tends (fun k => interchangeref1_Power.f k (n : Int)) (enc ((10 : Int) ^ n)) := by
  unfold interchangeref1_Power.f
  refine Tends.bind (r_Of (n := 1) (by omega) (by omega)) ?_
  exact r_Power_l0 n hn n 0 (by omega)
theorem r_At {u pl p : Int} (hu0 : -9223372036854775808 ≤ u) (hu1 : u ≤ 9223372036854775807) (h0 : pl ≤ p) (h1 : p - pl ≤ 180) : Tends (fun k => interchangeref1_At.f k u pl p) (enc (u * 10 ^ (p - pl).toNat)) := by
  unfold interchangeref1_At.f
  refine Tends.bind (r_Of hu0 hu1) ?_
  rw [show wrap64 (p - pl) = (((p - pl).toNat : Nat) : Int) by rw [w64] <;> omega]
  refine Tends.bind (r_Power (by omega)) ?_
  exact Tends.bind (r_TimesOf (Lo_small hu0 hu1) (Lo_pow10 (by omega))) (Tends.const _)
end Go.Proofs.YtaihfoihlbileaaDoor.R4
