/- Names, days and labels: the program and the reference answer alike: plain laws. -/
import Derived.Test.YthgefhnolmloiaaGreatDoorP3b
namespace Go.Proofs.YthgefhnolmloiaaGreatDoor.P3
open Go Go.Proofs Go.RowKit YthgefhnolmloiaaGreatDoorW.PrintWords

def okB (x : Int) : Bool := (decide (97 ≤ x) && decide (x ≤ 122)) || (decide (48 ≤ x) && decide (x ≤ 57)) || (x == 45)
def allB (s : ByteArray) : Nat → Nat → Bool
  | 0, _ => true
  | m + 1, i => okB (bt s (i : Int)) && allB s m (i + 1)
def nameOK (s : ByteArray) : Bool := decide (1 ≤ s.size) && decide (s.size ≤ 40) && decide (97 ≤ bt s 0) && decide (bt s 0 ≤ 122) && allB s s.size 0
theorem n_isName_l0 (s : ByteArray) (hs : s.size ≤ 9223372036854775807) : ∀ (m i : Nat), m + i = s.size → Tends (fun k => interchangeref1_isName.l0 k s (s.size : Int) (i : Int)) (allB s m i) := by
  intro m
  induction m with
  | zero =>
    intro i hi
    refine Tends.step (fun k => by rw [interchangeref1_isName.l0]) ?_
    simp only [if_neg (show ¬ (i : Int) < (s.size : Int) by omega)]
    exact Tends.const _
  | succ m ih =>
    intro i hi
    have hn := ih (i + 1) (by omega)
    have w1 : wrap64 ((i : Int) + 1) = ((i + 1 : Nat) : Int) := by rw [w64] <;> omega
    refine Tends.step (fun k => by rw [interchangeref1_isName.l0]) ?_
    simp only [if_pos (show (i : Int) < (s.size : Int) by omega), if_pos (show (0 : Int) ≤ (i : Int) by omega), w1]
    unfold allB
    obtain ⟨b, hb⟩ : ∃ b, bt s (i : Int) = b := ⟨_, rfl⟩
    rw [hb]
    by_cases h1 : b < 97
    · simp only [if_pos h1]
      by_cases h2 : b < 48
      · simp only [if_pos h2]
        by_cases h3 : b = 45
        · have e : okB b = true := by subst h3; rfl
          simp only [if_pos h3, e, Bool.true_and]
          exact hn
        · have e : okB b = false := by
            unfold okB
            simp only [Bool.or_eq_false_iff, Bool.and_eq_false_iff, decide_eq_false_iff_not, beq_eq_false_iff_ne]
            omega
          simp only [if_neg h3, e, Bool.false_and]
          exact Tends.const _
      · simp only [if_neg h2]
        by_cases h3 : b > 57
        · simp only [if_pos h3]
          have h4 : ¬ b = 45 := by omega
          have e : okB b = false := by
            unfold okB
            simp only [Bool.or_eq_false_iff, Bool.and_eq_false_iff, decide_eq_false_iff_not, beq_eq_false_iff_ne]
            omega
          simp only [if_neg h4, e, Bool.false_and]
          exact Tends.const _
        · have e : okB b = true := by
            unfold okB
            simp only [Bool.or_eq_true, Bool.and_eq_true, decide_eq_true_eq, beq_iff_eq]
            omega
          simp only [if_neg h3, e, Bool.true_and]
          exact hn
    · simp only [if_neg h1]
      by_cases h2 : b > 122
      · have h4 : ¬ b < 48 := by omega
        have h5 : b > 57 := by omega
        have h6 : ¬ b = 45 := by omega
        have e : okB b = false := by
          unfold okB
          simp only [Bool.or_eq_false_iff, Bool.and_eq_false_iff, decide_eq_false_iff_not, beq_eq_false_iff_ne]
          omega
        simp only [if_pos h2, if_neg h4, if_pos h5, if_neg h6, e, Bool.false_and]
        exact Tends.const _
      · have e : okB b = true := by
          unfold okB
          simp only [Bool.or_eq_true, Bool.and_eq_true, decide_eq_true_eq, beq_iff_eq]
          omega
        simp only [if_neg h2, e, Bool.true_and]
        exact hn
theorem toList_nil (s : ByteArray) : s.toList = ([] : List UInt8) ↔ s.size = 0 := by
  rw [ByteArray.toList_eq]
  obtain ⟨⟨l⟩⟩ := s
  simp [ByteArray.size]
theorem n_IsName (s : ByteArray) (hs : s.size ≤ 9223372036854775807) : Tends (fun k => interchangeref1_IsName.f k s) (nameOK s) := by
  unfold interchangeref1_IsName.f
  refine Tends.bind ?_ (Tends.const _)
  unfold interchangeref1_isName.f nameOK
  have bad : Tends (fun k => interchangeref1_isName.j0 k s true) false := by
    refine Tends.step (fun k => by rw [interchangeref1_isName.j0]) ?_
    simp only [if_true]
    exact Tends.const _
  by_cases h0 : s.size = 0
  · simp only [if_pos ((toList_nil s).2 h0)]
    rw [show decide (1 ≤ s.size) = false from decide_eq_false (by omega)]
    simp only [Bool.false_and]
    exact bad
  · simp only [if_neg (fun e => h0 ((toList_nil s).1 e))]
    by_cases h1 : (s.size : Int) > 40
    · simp only [if_pos h1]
      rw [show decide (s.size ≤ 40) = false from decide_eq_false (by omega)]
      simp only [Bool.and_false, Bool.false_and]
      exact bad
    · simp only [if_neg h1, if_pos (show 0 < (s.size : Int) by omega)]
      rw [show decide (1 ≤ s.size) = true from decide_eq_true (by omega), show decide (s.size ≤ 40) = true from decide_eq_true (by omega)]
      by_cases h2 : bt s 0 < 97
      · simp only [if_pos h2]
        rw [show decide (97 ≤ bt s 0) = false from decide_eq_false (by omega)]
        simp only [Bool.and_false, Bool.false_and]
        exact bad
      · simp only [if_neg h2]
        rw [show decide (97 ≤ bt s 0) = true from decide_eq_true (by omega)]
        by_cases h3 : bt s 0 > 122
        · rw [show decide (bt s 0 ≤ 122) = false from decide_eq_false (by omega), decide_eq_true h3]
          simp only [Bool.and_false, Bool.false_and]
          exact bad
        · rw [show decide (bt s 0 ≤ 122) = true from decide_eq_true (by omega), decide_eq_false h3]
          simp only [Bool.and_true, Bool.true_and]
          refine Tends.step (fun k => by rw [interchangeref1_isName.j0]) ?_
          simp only [Bool.false_eq_true, if_false]
          exact n_isName_l0 s hs s.size 0 (by omega)
/-! ### the program's names -/
theorem dw_nil_or {p : UInt8 → Bool} : ∀ l : List UInt8, l.dropWhile p = [] ∧ (∀ b ∈ l, p b = true) ∨ ∃ y ys, l.dropWhile p = y :: ys ∧ p y = false
  | [] => Or.inl ⟨rfl, fun b h => by cases h⟩
  | x :: l => by
    by_cases h : p x = true
    · simp only [List.dropWhile_cons, h, if_true]
      rcases dw_nil_or (p := p) l with ⟨h1, h2⟩ | h1
      · exact Or.inl ⟨h1, fun b hb => by
          rcases List.mem_cons.1 hb with rfl | hb
          · exact h
          · exact h2 b hb⟩
      · exact Or.inr h1
    · exact Or.inr ⟨x, l, by simp [h], by simpa using h⟩
theorem dw_all {p : UInt8 → Bool} : ∀ l : List UInt8, (∀ b ∈ l, p b = true) → l.dropWhile p = []
  | [], _ => rfl
  | x :: l, h => by
    rw [List.dropWhile_cons, h x (List.mem_cons_self ..)]
    simp only [if_true]
    exact dw_all l fun b hb => h b (List.mem_cons_of_mem _ hb)
theorem trimS_nil (l cs : List UInt8) : Lib.trimS l cs = [] ↔ ∀ b ∈ l, cs.contains b = true := by
  unfold Lib.trimS Lib.trimLeftS Lib.trimRightS
  constructor
  · intro h
    rcases dw_nil_or (p := (cs.contains ·)) l.reverse with ⟨_, h2⟩ | ⟨y, ys, h1, h2⟩
    · intro b hb
      exact h2 b (List.mem_reverse.2 hb)
    · exfalso
      rw [h1] at h
      rcases dw_nil_or (p := (cs.contains ·)) (y :: ys).reverse with ⟨_, h4⟩ | ⟨z, zs, h3, _⟩
      · have := h4 y (by simp)
        rw [this] at h2
        cases h2
      · rw [h3] at h
        cases h
  · intro h
    rw [dw_all (p := (cs.contains ·)) l.reverse fun b hb => h b (List.mem_reverse.1 hb)]
    rfl
def nameCut : ByteArray := ⟨#[97, 98, 99, 100, 101, 102, 103, 104, 105, 106, 107, 108, 109, 110, 111, 112, 113, 114, 115, 116, 117, 118, 119, 120, 121, 122, 48, 49, 50, 51, 52, 53, 54, 55, 56, 57, 45]⟩
theorem cut_okB_fin : ∀ n : Fin 256, nameCut.data.toList.contains (UInt8.ofNat n.1) = okB (n.1 : Int) := by decide +kernel
theorem cut_okB (b : UInt8) : nameCut.data.toList.contains b = okB (b.toNat : Int) := by
  have := cut_okB_fin ⟨b.toNat, b.toNat_lt⟩
  simpa using this
theorem bt_get (s : ByteArray) (i : Nat) (h : i < s.size) : bt s (i : Int) = ((s.data.toList[i]'(by simpa using h)).toNat : Int) := by
  unfold bt
  simp only [Int.toNat_natCast, h, dif_pos]
  rfl
theorem allB_iff (s : ByteArray) : ∀ (m i : Nat), m + i = s.size → (allB s m i = true ↔ ∀ b ∈ s.data.toList.drop i, okB (b.toNat : Int) = true) := by
  intro m
  induction m with
  | zero =>
    intro i hi
    have hl : s.size = s.data.toList.length := by rw [Array.length_toList]; rfl
    rw [List.drop_eq_nil_of_le (by omega)]
    simp [allB]
  | succ m ih =>
    intro i hi
    have hl : i < s.data.toList.length := by
      have : s.size = s.data.toList.length := by rw [Array.length_toList]; rfl
      omega
    rw [List.drop_eq_getElem_cons hl]
    unfold allB
    rw [Bool.and_eq_true, ih (i + 1) (by omega), bt_get s i (by omega)]
    simp only [List.mem_cons, forall_eq_or_imp]
theorem n_kitIsName (s : ByteArray) (hs : s.size ≤ 9223372036854775807) : kit_IsName.f s = some (nameOK s) := by
  unfold kit_IsName.f nameOK
  by_cases h0 : (s.size : Int) < 1
  · simp only [if_pos h0]
    rw [show decide (1 ≤ s.size) = false from decide_eq_false (by omega)]
    simp only [Bool.false_and]
  · simp only [if_neg h0]
    rw [show decide (1 ≤ s.size) = true from decide_eq_true (by omega)]
    by_cases h1 : (s.size : Int) > 40
    · simp only [if_pos h1]
      rw [show decide (s.size ≤ 40) = false from decide_eq_false (by omega)]
      simp only [Bool.and_false, Bool.false_and]
    · simp only [if_neg h1, if_pos (show 0 < (s.size : Int) by omega)]
      rw [show decide (s.size ≤ 40) = true from decide_eq_true (by omega)]
      by_cases h2 : bt s 0 < 97
      · simp only [if_pos h2]
        rw [show decide (97 ≤ bt s 0) = false from decide_eq_false (by omega)]
        simp only [Bool.and_false, Bool.false_and]
      · simp only [if_neg h2]
        rw [show decide (97 ≤ bt s 0) = true from decide_eq_true (by omega)]
        by_cases h3 : bt s 0 > 122
        · simp only [if_pos h3]
          rw [show decide (bt s 0 ≤ 122) = false from decide_eq_false (by omega)]
          simp only [Bool.and_false, Bool.false_and]
        · simp only [if_neg h3]
          rw [show decide (bt s 0 ≤ 122) = true from decide_eq_true (by omega)]
          simp only [Bool.and_true, Bool.true_and]
          show (strings_Trim.f s nameCut).bind _ = _
          unfold strings_Trim.f
          rw [if_pos ⟨by omega, by decide +kernel, by decide +kernel⟩]
          simp only [Option.bind_some]
          congr 1
          rw [ByteArray.toList_eq]
          have e := allB_iff s s.size 0 (by omega)
          rw [List.drop_zero] at e
          have e2 := trimS_nil s.data.toList nameCut.data.toList
          by_cases h4 : allB s s.size 0 = true
          · rw [h4]
            have : Lib.trimS s.data.toList nameCut.data.toList = [] := e2.2 fun b hb => by
              rw [cut_okB]
              exact e.1 h4 b hb
            simp [this]
          · have h5 : ¬ Lib.trimS s.data.toList nameCut.data.toList = [] := fun q => h4 (e.2 fun b hb => by
              rw [← cut_okB]
              exact e2.1 q b hb)
            rw [show allB s s.size 0 = false by simpa using h4]
            simp [h5]
end Go.Proofs.YthgefhnolmloiaaGreatDoor.P3
