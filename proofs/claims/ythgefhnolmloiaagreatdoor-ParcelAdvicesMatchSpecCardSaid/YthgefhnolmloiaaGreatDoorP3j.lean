/- Within and Path: the program and the reference answer alike; the law holds: plain laws. -/
import Derived.Test.YthgefhnolmloiaaGreatDoorP3i
namespace Go.Proofs.YthgefhnolmloiaaGreatDoor.P3
open Go Go.Proofs Go.RowKit YthgefhnolmloiaaGreatDoorW.PrintWords

theorem ba_ext {a b : ByteArray} (h : a.toList = b.toList) : a = b := by
  rw [ByteArray.toList_eq, ByteArray.toList_eq] at h
  obtain ⟨⟨x⟩⟩ := a
  obtain ⟨⟨y⟩⟩ := b
  have h : x = y := h
  rw [h]
def labB (l : List SP) (i : Nat) : ByteArray := (rdP l (i : Int)).f0
theorem rd_map (xs : List Nat) (i : Nat) (h : i < xs.length) : rd (xs.map (fun n : Nat => (n : Int))) (i : Int) = ((xs[i]'h : Nat) : Int) := by
  unfold rd
  simp [List.getD_eq_getElem?_getD, List.getElem?_map, List.getElem?_eq_getElem h]
theorem rdOf_get (xs : List ByteArray) (i : Nat) (h : i < xs.length) : rdOf ByteArray.empty xs (i : Int) = xs[i]'h := by
  unfold rdOf
  simp [List.getD_eq_getElem?_getD, List.getElem?_eq_getElem h]

/-! ### reversing -/
theorem set_mid {α : Type} (p r : List α) (a b : α) : (p ++ a :: r).set p.length b = p ++ b :: r := by
  rw [List.set_append_right _ _ (Nat.le_refl _), Nat.sub_self]
  rfl
theorem get_mid {α : Type} (p r : List α) (a d : α) : (p ++ a :: r).getD p.length d = a := by
  rw [List.getD_eq_getElem?_getD, List.getElem?_append_right (Nat.le_refl _), Nat.sub_self]
  rfl
theorem swap_ends {α : Type} (p m q : List α) (a b d : α) : ((p ++ a :: (m ++ b :: q)).set p.length ((p ++ a :: (m ++ b :: q)).getD (p.length + 1 + m.length) d)).set (p.length + 1 + m.length) ((p ++ a :: (m ++ b :: q)).getD p.length d) = (p ++ [b]) ++ (m ++ a :: q) := by
  have e : p ++ a :: (m ++ b :: q) = (p ++ a :: m) ++ b :: q := by simp
  have el : (p ++ a :: m).length = p.length + 1 + m.length := by simp; omega
  have g1 : (p ++ a :: (m ++ b :: q)).getD (p.length + 1 + m.length) d = b := by
    rw [e, ← el]
    exact get_mid _ _ _ _
  rw [g1, get_mid, set_mid]
  have e2 : p ++ b :: (m ++ b :: q) = (p ++ b :: m) ++ b :: q := by simp
  have el2 : (p ++ b :: m).length = p.length + 1 + m.length := by simp; omega
  rw [e2, ← el2, set_mid]
  simp
theorem two_ends {α : Type} (m : List α) (h : 2 ≤ m.length) : ∃ a r b, m = a :: (r ++ [b]) := by
  cases m with
  | nil => simp at h
  | cons a t =>
    have ht : t ≠ [] := fun e => by
      subst e
      simp at h
    exact ⟨a, t.dropLast, t.getLast ht, by rw [List.dropLast_concat_getLast]⟩
theorem w_rev_int : ∀ (n : Nat) (p m q : List Int), m.length ≤ n → p.length = q.length → (p ++ (m ++ q)).length < 4611686018427387904 → Tends (fun k => slices_Reverse_int_int.l0 k (p ++ (m ++ q)) (p.length : Int) ((p.length : Int) + (m.length : Int) - 1)) (p ++ (m.reverse ++ q)) := by
  intro n
  induction n with
  | zero =>
    intro p m q hm hp hl
    obtain rfl : m = [] := List.eq_nil_of_length_eq_zero (by omega)
    refine Tends.step (fun k => by rw [slices_Reverse_int_int.l0]) ?_
    simp only [List.length_nil, if_neg (show ¬ (p.length : Int) < (p.length : Int) + ((0 : Nat) : Int) - 1 by omega)]
    exact Tends.const _
  | succ n ih =>
    intro p m q hm hp hl
    by_cases h2 : 2 ≤ m.length
    · obtain ⟨a, r, b, rfl⟩ := two_ends m h2
      have hml : (a :: (r ++ [b])).length = r.length + 2 := by simp
      simp only [List.length_append, hml] at hl
      rw [hml]
      have ej : (p.length : Int) + ((r.length + 2 : Nat) : Int) - 1 = ((p.length + 1 + r.length : Nat) : Int) := by omega
      have el : (p ++ (a :: (r ++ [b]) ++ q)).length = p.length + 1 + r.length + (1 + q.length) := by simp; omega
      rw [ej]
      refine Tends.step (fun k => by rw [slices_Reverse_int_int.l0]) ?_
      have w1 : wrap64 ((p.length : Int) + 1) = ((p.length + 1 : Nat) : Int) := by rw [w64] <;> omega
      have w2 : wrap64 (((p.length + 1 + r.length : Nat) : Int) - 1) = ((p.length + r.length : Nat) : Int) := by rw [w64] <;> omega
      simp only [if_pos (show (p.length : Int) < ((p.length + 1 + r.length : Nat) : Int) by omega), if_pos (show (0 : Int) ≤ ((p.length + 1 + r.length : Nat) : Int) by omega), el, if_pos (show ((p.length + 1 + r.length : Nat) : Int) < ((p.length + 1 + r.length + (1 + q.length) : Nat) : Int) by omega), if_pos (show (0 : Int) ≤ (p.length : Int) by omega), if_pos (show (p.length : Int) < ((p.length + 1 + r.length + (1 + q.length) : Nat) : Int) by omega), w1, w2]
      have e0 : p ++ (a :: (r ++ [b]) ++ q) = p ++ a :: (r ++ b :: q) := by simp
      have hsw := swap_ends p r q a b (0 : Int)
      unfold rd
      rw [e0, Int.toNat_natCast, Int.toNat_natCast, hsw]
      have hI := ih (p ++ [b]) r (a :: q) (by rw [hml] at hm; omega) (by simp; omega) (by simp; omega)
      have e1 : (p ++ [b]) ++ (r ++ a :: q) = (p ++ [b]) ++ (r ++ (a :: q)) := rfl
      have e2 : (((p ++ [b]).length : Nat) : Int) = ((p.length + 1 : Nat) : Int) := by simp
      rw [e2] at hI
      have e3 : ((p.length + 1 : Nat) : Int) + (r.length : Int) - 1 = ((p.length + r.length : Nat) : Int) := by omega
      rw [e3] at hI
      have e4 : p ++ ((a :: (r ++ [b])).reverse ++ q) = (p ++ [b]) ++ (r.reverse ++ (a :: q)) := by simp
      rw [e4]
      exact hI
    · refine Tends.step (fun k => by rw [slices_Reverse_int_int.l0]) ?_
      simp only [if_neg (show ¬ (p.length : Int) < (p.length : Int) + (m.length : Int) - 1 by omega)]
      have e : m.reverse = m := by
        cases m with
        | nil => rfl
        | cons a t =>
          cases t with
          | nil => rfl
          | cons b t => exact absurd (show 2 ≤ (a :: b :: t).length by simp) h2
      rw [e]
      exact Tends.const _
theorem w_revInt (l : List Int) (hl : l.length < 4611686018427387904) : Tends (fun k => slices_Reverse_int_int.f k l) l.reverse := by
  have h := w_rev_int l.length [] l [] (Nat.le_refl _) rfl (by simpa using hl)
  unfold slices_Reverse_int_int.f
  have e : wrap64 ((l.length : Int) - 1) = (([] : List Int).length : Int) + (l.length : Int) - 1 := by
    rw [w64] <;> first | omega | (simp; done) | (simp; omega)
  rw [e]
  simpa using h
theorem w_rev_str : ∀ (n : Nat) (p m q : List ByteArray), m.length ≤ n → p.length = q.length → (p ++ (m ++ q)).length < 4611686018427387904 → Tends (fun k => slices_Reverse_string_string.l0 k (p ++ (m ++ q)) (p.length : Int) ((p.length : Int) + (m.length : Int) - 1)) (p ++ (m.reverse ++ q)) := by
  intro n
  induction n with
  | zero =>
    intro p m q hm hp hl
    obtain rfl : m = [] := List.eq_nil_of_length_eq_zero (by omega)
    refine Tends.step (fun k => by rw [slices_Reverse_string_string.l0]) ?_
    simp only [List.length_nil, if_neg (show ¬ (p.length : Int) < (p.length : Int) + ((0 : Nat) : Int) - 1 by omega)]
    exact Tends.const _
  | succ n ih =>
    intro p m q hm hp hl
    by_cases h2 : 2 ≤ m.length
    · obtain ⟨a, r, b, rfl⟩ := two_ends m h2
      have hml : (a :: (r ++ [b])).length = r.length + 2 := by simp
      simp only [List.length_append, hml] at hl
      rw [hml]
      have ej : (p.length : Int) + ((r.length + 2 : Nat) : Int) - 1 = ((p.length + 1 + r.length : Nat) : Int) := by omega
      have el : (p ++ (a :: (r ++ [b]) ++ q)).length = p.length + 1 + r.length + (1 + q.length) := by simp; omega
      rw [ej]
      refine Tends.step (fun k => by rw [slices_Reverse_string_string.l0]) ?_
      have w1 : wrap64 ((p.length : Int) + 1) = ((p.length + 1 : Nat) : Int) := by rw [w64] <;> omega
      have w2 : wrap64 (((p.length + 1 + r.length : Nat) : Int) - 1) = ((p.length + r.length : Nat) : Int) := by rw [w64] <;> omega
      simp only [if_pos (show (p.length : Int) < ((p.length + 1 + r.length : Nat) : Int) by omega), if_pos (show (0 : Int) ≤ ((p.length + 1 + r.length : Nat) : Int) by omega), el, if_pos (show ((p.length + 1 + r.length : Nat) : Int) < ((p.length + 1 + r.length + (1 + q.length) : Nat) : Int) by omega), if_pos (show (0 : Int) ≤ (p.length : Int) by omega), if_pos (show (p.length : Int) < ((p.length + 1 + r.length + (1 + q.length) : Nat) : Int) by omega), w1, w2]
      have e0 : p ++ (a :: (r ++ [b]) ++ q) = p ++ a :: (r ++ b :: q) := by simp
      have hsw := swap_ends p r q a b ByteArray.empty
      unfold rdOf
      rw [e0, Int.toNat_natCast, Int.toNat_natCast, hsw]
      have hI := ih (p ++ [b]) r (a :: q) (by rw [hml] at hm; omega) (by simp; omega) (by simp; omega)
      have e2 : (((p ++ [b]).length : Nat) : Int) = ((p.length + 1 : Nat) : Int) := by simp
      rw [e2] at hI
      have e3 : ((p.length + 1 : Nat) : Int) + (r.length : Int) - 1 = ((p.length + r.length : Nat) : Int) := by omega
      rw [e3] at hI
      have e4 : p ++ ((a :: (r ++ [b])).reverse ++ q) = (p ++ [b]) ++ (r.reverse ++ (a :: q)) := by simp
      rw [e4]
      exact hI
    · refine Tends.step (fun k => by rw [slices_Reverse_string_string.l0]) ?_
      simp only [if_neg (show ¬ (p.length : Int) < (p.length : Int) + (m.length : Int) - 1 by omega)]
      have e : m.reverse = m := by
        cases m with
        | nil => rfl
        | cons a t =>
          cases t with
          | nil => rfl
          | cons b t => exact absurd (show 2 ≤ (a :: b :: t).length by simp) h2
      rw [e]
      exact Tends.const _
theorem w_revStr (l : List ByteArray) (hl : l.length < 4611686018427387904) : Tends (fun k => slices_Reverse_string_string.f k l) l.reverse := by
  have h := w_rev_str l.length [] l [] (Nat.le_refl _) rfl (by simpa using hl)
  unfold slices_Reverse_string_string.f
  have e : wrap64 ((l.length : Int) - 1) = (([] : List ByteArray).length : Int) + (l.length : Int) - 1 := by
    rw [w64] <;> first | omega | (simp; done) | (simp; omega)
  rw [e]
  simpa using h

/-! ### the same list -/
theorem w_equal_l0 (x : List ByteArray) (hl : x.length < 4611686018427387904) : ∀ (m i : Nat), m + i = x.length → Tends (fun k => slices_Equal_string_string.l0 k x x (x.length : Int) (i : Int)) true := by
  intro m
  induction m with
  | zero =>
    intro i hi
    refine Tends.step (fun q => by rw [slices_Equal_string_string.l0]) ?_
    simp only [if_neg (show ¬ (i : Int) < (x.length : Int) by omega)]
    exact Tends.const _
  | succ m ih =>
    intro i hi
    have w1 : wrap64 ((i : Int) + 1) = ((i + 1 : Nat) : Int) := by rw [w64] <;> omega
    refine Tends.step (fun q => by rw [slices_Equal_string_string.l0]) ?_
    simp only [if_pos (show (i : Int) < (x.length : Int) by omega), if_pos (show (0 : Int) ≤ (i : Int) by omega), if_true, w1]
    exact ih (i + 1) (by omega)
theorem w_equal (x : List ByteArray) (hl : x.length < 4611686018427387904) : Tends (fun k => slices_Equal_string_string.f k x x) true := by
  unfold slices_Equal_string_string.f
  simp only [if_true]
  exact w_equal_l0 x hl x.length 0 rfl

/-! ### labels of parcels -/
theorem w_labels_l0 (l : List SP) (xs : List Nat) (hx : ∀ x ∈ xs, x < l.length) (hl : xs.length ≤ 1000) : ∀ (m i : Nat) (acc : List ByteArray), m + i = xs.length → acc.length = i → Tends (fun k => interchangeref10_labels.l0 k l acc (xs.map (fun n : Nat => (n : Int))) (xs.length : Int) (i : Int)) (acc ++ (xs.drop i).map (labB l)) := by
  intro m
  induction m with
  | zero =>
    intro i acc hi ha
    refine Tends.step (fun q => by rw [interchangeref10_labels.l0]) ?_
    simp only [if_neg (show ¬ (i : Int) < (xs.length : Int) by omega)]
    rw [List.drop_eq_nil_of_le (by omega), List.map_nil, List.append_nil]
    exact Tends.const _
  | succ m ih =>
    intro i acc hi ha
    have hi' : i < xs.length := by omega
    have w1 : wrap64 ((i : Int) + 1) = ((i + 1 : Nat) : Int) := by rw [w64] <;> omega
    have hb := hx _ (List.getElem_mem hi')
    refine Tends.step (fun q => by rw [interchangeref10_labels.l0]) ?_
    simp only [if_pos (show (i : Int) < (xs.length : Int) by omega), if_pos (show (0 : Int) ≤ (i : Int) by omega), List.length_map, rd_map xs i hi', if_pos (show (0 : Int) ≤ ((xs[i]'hi' : Nat) : Int) by omega), if_pos (show ((xs[i]'hi' : Nat) : Int) < (l.length : Int) by omega), if_pos (show acc.length < 8796093022208 by omega), w1]
    have hI := ih (i + 1) (acc ++ [labB l (xs[i]'hi')]) (by omega) (by simp; omega)
    rw [List.drop_eq_getElem_cons hi', List.map_cons]
    rw [List.append_assoc] at hI
    exact hI
theorem w_labels (l : List SP) (xs : List Nat) (hx : ∀ x ∈ xs, x < l.length) (hl : xs.length ≤ 1000) : Tends (fun k => interchangeref10_labels.f k l (xs.map (fun n : Nat => (n : Int)))) (xs.map (labB l)) := by
  unfold interchangeref10_labels.f
  rw [List.length_map]
  exact w_labels_l0 l xs hx hl xs.length 0 [] rfl rfl

/-! ### within a parcel -/
section
variable {l : List SP} {s : ByteArray} {j : Nat}
theorem arO_len (l : List SP) (i : Nat) : (arO (nx l) l.length i).1.length ≤ l.length := nd_len _ _ (arO_nd _ _ _) (fun x hx => (arO_mem nx_lt x hx).1)
theorem w_isWithin (g : Good l) (hj : ix l s = some j) (a b : ByteArray) (c : Int) (i : Nat) (hi : i < l.length) : Tends (fun k => parcel_isWithin.f k a b c l (i : Int) s) (decide (j ∈ (arO (nx l) l.length i).1)) := by
  unfold parcel_isWithin.f
  refine Tends.bind (h_around l g.len g.srt g.cl a b c i hi) ?_
  have hlen := arO_len l i
  have hglen := g.len
  have h1 : ((cast (arO (nx l) l.length i)).1.all fun x => decide (0 ≤ x) && decide (x < (l.length : Int))) = true := by
    unfold cast
    rw [List.all_map, List.all_eq_true]
    intro x hx
    have := (arO_mem nx_lt x hx).1
    simp only [Function.comp, Bool.and_eq_true, decide_eq_true_eq]
    omega
  have h2 : (cast (arO (nx l) l.length i)).1.length < 4611686018427387904 := by
    unfold cast
    rw [List.length_map]
    omega
  have h3 : ((cast (arO (nx l) l.length i)).1.any fun x => ((rdP l x).f0).toList == s.toList) = decide (j ∈ (arO (nx l) l.length i).1) := by
    obtain ⟨hjl, hjs⟩ := ix_some hj
    unfold cast
    rw [List.any_map]
    by_cases h : j ∈ (arO (nx l) l.length i).1
    · rw [decide_eq_true h, List.any_eq_true]
      refine ⟨j, h, ?_⟩
      simp only [Function.comp, beq_iff_eq]
      exact hjs
    · rw [decide_eq_false h, List.any_eq_false]
      intro x hx
      simp only [Function.comp, beq_iff_eq]
      intro e
      have e' : lab l x = lab l j := Eq.trans e hjs.symm
      have := g.srt.inj (arO_mem nx_lt x hx).1 hjl e'
      exact h (this ▸ hx)
  simp only [h1, h2, and_self, if_true, h3]
  exact Tends.const _
/-- the numbers of those that are within the parcel with number j -/
def gW (l : List SP) (j : Nat) : Nat → Nat → List Nat
  | 0, _ => []
  | m + 1, i => if j ∈ (arO (nx l) l.length i).1 then i :: gW l j m (i + 1) else gW l j m (i + 1)
/-- and its own -/
def gI (l : List SP) (j : Nat) : Nat → Nat → List Nat
  | 0, _ => []
  | m + 1, i => if j = i ∨ j ∈ (arO (nx l) l.length i).1 then i :: gI l j m (i + 1) else gI l j m (i + 1)
theorem gI_lt (l : List SP) (j : Nat) : ∀ (m i : Nat), (∀ x ∈ gI l j m i, i ≤ x ∧ x < m + i) ∧ (gI l j m i).length ≤ m
  | 0, i => ⟨fun x hx => (by cases hx), Nat.le_refl _⟩
  | m + 1, i => by
    obtain ⟨h1, h2⟩ := gI_lt l j m (i + 1)
    unfold gI
    split
    · refine ⟨fun x hx => ?_, by simp; omega⟩
      rcases List.mem_cons.1 hx with rfl | hx
      · omega
      · have := h1 x hx
        omega
    · refine ⟨fun x hx => ?_, by omega⟩
      have := h1 x hx
      omega
theorem gW_len (l : List SP) (j : Nat) : ∀ (m i : Nat), (gW l j m i).length ≤ m
  | 0, i => Nat.le_refl _
  | m + 1, i => by
    have := gW_len l j m (i + 1)
    unfold gW
    split
    · simp; omega
    · omega
theorem gI_filter (g : Good l) (hj : ix l s = some j) : ∀ (m i : Nat), m + i = l.length → ((gI l j m i).map (labB l)).filter (fun x => decide (x.toList ≠ s.toList)) = (gW l j m i).map (labB l)
  | 0, i, hi => rfl
  | m + 1, i, hi => by
    have ih := gI_filter g hj m (i + 1) (by omega)
    obtain ⟨hjl, hjs⟩ := ix_some hj
    unfold gI gW
    by_cases h1 : j ∈ (arO (nx l) l.length i).1
    · have hne : ¬ (labB l i).toList = s.toList := fun e => by
        have e' : lab l i = lab l j := Eq.trans e hjs.symm
        have := g.srt.inj (show i < l.length by omega) hjl e'
        exact (arO_mem nx_lt j h1).2 this.symm
      rw [if_pos (Or.inr h1), if_pos h1, List.map_cons, List.map_cons, List.filter_cons_of_pos (by simpa using hne), ih]
    · rw [if_neg h1]
      by_cases h2 : j = i
      · subst h2
        have he : (labB l j).toList = s.toList := hjs
        rw [if_pos (Or.inl rfl), List.map_cons, List.filter_cons_of_neg (by simp [he]), ih]
      · rw [if_neg (by simp [h1, h2]), ih]
theorem w_prog_l0 (g : Good l) (hj : ix l s = some j) (a b : ByteArray) (c : Int) : ∀ (m i : Nat) (acc : List ByteArray), m + i = l.length → acc.length ≤ i → Tends (fun k => parcel_Within.l0 k s acc l (l.length : Int) (i : Int) a b c l) (acc ++ (gW l j m i).map (labB l), 0) := by
  intro m
  have hglen := g.len
  induction m with
  | zero =>
    intro i acc hi ha
    refine Tends.step (fun q => by rw [parcel_Within.l0]) ?_
    simp only [if_neg (show ¬ (i : Int) < (l.length : Int) by omega)]
    unfold gW
    rw [List.map_nil, List.append_nil]
    exact Tends.const _
  | succ m ih =>
    intro i acc hi ha
    have w1 : wrap64 ((i : Int) + 1) = ((i + 1 : Nat) : Int) := by rw [w64] <;> omega
    refine Tends.step (fun q => by rw [parcel_Within.l0]) ?_
    simp only [if_pos (show (i : Int) < (l.length : Int) by omega), if_pos (show (0 : Int) ≤ (i : Int) by omega), if_pos (show acc.length < 8796093022208 by omega), w1]
    refine Tends.bind (w_isWithin g hj a b c i (by omega)) ?_
    unfold gW
    by_cases h : j ∈ (arO (nx l) l.length i).1
    · simp only [decide_eq_true h, if_true, if_pos h]
      have hI := ih (i + 1) (acc ++ [labB l i]) (by omega) (by simp; omega)
      rw [List.append_assoc] at hI
      rw [List.map_cons]
      exact hI
    · simp only [decide_eq_false h, Bool.false_eq_true, if_false, if_neg h]
      exact ih (i + 1) acc (by omega) (by omega)
theorem w_inside_l0 (g : Good l) (hj : ix l s = some j) (hne : s.toList ≠ []) : ∀ (m i : Nat) (acc : List Nat), m + i = l.length → acc.length ≤ i → Tends (fun k => interchangeref10_inside.l0 k l s (acc.map (fun n : Nat => (n : Int))) (l.length : Int) (i : Int)) ((acc ++ gI l j m i).map (fun n : Nat => (n : Int))) := by
  intro m
  have hglen := g.len
  induction m with
  | zero =>
    intro i acc hi ha
    refine Tends.step (fun q => by rw [interchangeref10_inside.l0]) ?_
    simp only [if_neg (show ¬ (i : Int) < (l.length : Int) by omega)]
    unfold gI
    rw [List.append_nil]
    exact Tends.const _
  | succ m ih =>
    intro i acc hi ha
    have w1 : wrap64 ((i : Int) + 1) = ((i + 1 : Nat) : Int) := by rw [w64] <;> omega
    have hu := h_up l g.len g.cl i (by omega)
    rw [arO_up nx_lt g.lo (by omega)] at hu
    have hp := p_parcelOf l s g.len
    rw [hj] at hp
    have hp : Tends (fun q => interchangeref10_parcelOf.f q l s) (j : Int) := hp
    have hlen := arO_len l i
    refine Tends.step (fun q => by rw [interchangeref10_inside.l0]) ?_
    simp only [if_pos (show (i : Int) < (l.length : Int) by omega), if_neg hne, List.length_map, if_pos (show acc.length < 17592186044416 by omega), w1]
    refine Tends.bind hu ?_
    refine Tends.bind hp ?_
    refine Tends.bind (l_Contains _ _ (by unfold cast; simp; omega)) ?_
    unfold gI
    have hm : (j : Int) ∈ (cast (i :: (arO (nx l) l.length i).1, true)).1 ↔ (j = i ∨ j ∈ (arO (nx l) l.length i).1) := by
      unfold cast
      rw [mem_cast, List.mem_cons]
    by_cases h : j = i ∨ j ∈ (arO (nx l) l.length i).1
    · simp only [decide_eq_true (hm.2 h), if_true, if_pos h]
      have hI := ih (i + 1) (acc ++ [i]) (by omega) (by simp; omega)
      rw [List.append_assoc, List.map_append (l₁ := acc) (l₂ := [i])] at hI
      exact hI
    · simp only [decide_eq_false (fun q => h (hm.1 q)), Bool.false_eq_true, if_false, if_neg h]
      exact ih (i + 1) acc (by omega) (by omega)
theorem w_inside (g : Good l) (hj : ix l s = some j) (hne : s.toList ≠ []) : Tends (fun k => interchangeref10_inside.f k l s) ((gI l j l.length 0).map (fun n : Nat => (n : Int))) := by
  unfold interchangeref10_inside.f
  exact w_inside_l0 g hj hne l.length 0 [] rfl (Nat.le_refl _)
theorem w_ref_l0 (y : List ByteArray) (hy : y.length ≤ 1000) : ∀ (m i : Nat) (acc : List ByteArray), m + i = y.length → acc.length ≤ i → Tends (fun k => interchangeref10_Within.l0 k s acc y (y.length : Int) (i : Int)) (acc ++ (y.drop i).filter (fun x => decide (x.toList ≠ s.toList)), 0) := by
  intro m
  induction m with
  | zero =>
    intro i acc hi ha
    refine Tends.step (fun q => by rw [interchangeref10_Within.l0]) ?_
    simp only [if_neg (show ¬ (i : Int) < (y.length : Int) by omega)]
    rw [List.drop_eq_nil_of_le (by omega), List.filter_nil, List.append_nil]
    exact Tends.const _
  | succ m ih =>
    intro i acc hi ha
    have hi' : i < y.length := by omega
    have w1 : wrap64 ((i : Int) + 1) = ((i + 1 : Nat) : Int) := by rw [w64] <;> omega
    refine Tends.step (fun q => by rw [interchangeref10_Within.l0]) ?_
    simp only [if_pos (show (i : Int) < (y.length : Int) by omega), if_pos (show (0 : Int) ≤ (i : Int) by omega), rdOf_get y i hi', if_pos (show acc.length < 8796093022208 by omega), w1]
    rw [List.drop_eq_getElem_cons hi']
    by_cases h : (y[i]'hi').toList = s.toList
    · simp only [if_pos h]
      rw [List.filter_cons_of_neg (by simp [h])]
      exact ih (i + 1) acc (by omega) (by omega)
    · simp only [if_neg h]
      have hI := ih (i + 1) (acc ++ [y[i]'hi']) (by omega) (by simp; omega)
      rw [List.append_assoc] at hI
      rw [List.filter_cons_of_pos (by simpa using h)]
      exact hI
/-- a label that is there is not empty -/
theorem lab_ne (g : Good l) (hj : ix l s = some j) : s.toList ≠ [] := by
  obtain ⟨hjl, hjs⟩ := ix_some hj
  have h := g.lab j hjl
  unfold labelOK at h
  simp only [Bool.and_eq_true, decide_eq_true_eq] at h
  have h1 := h.1.1
  intro e
  rw [← hjs] at e
  have := (toList_nil ((rdP l (j : Int)).f0)).1 e
  omega

/-! ### the answers -/
def wAns (a b : ByteArray) (c : Int) (l : List SP) (s : ByteArray) : List ByteArray × Int :=
  if chk a b c l = 0 then (match ix l s with
    | none => ([], 9)
    | some j => ((gW l j l.length 0).map (labB l), 0))
  else ([], chk a b c l)
def pAns (a b : ByteArray) (c : Int) (l : List SP) (s : ByteArray) : List ByteArray × Int :=
  if chk a b c l = 0 then (match ix l s with
    | none => ([], 9)
    | some j => (((j :: (arO (nx l) l.length j).1).map (labB l)).reverse, 0))
  else ([], chk a b c l)
theorem w_labelFault (a b : ByteArray) (c : Int) (hz : Zd a b l) : Tends (fun k => parcel_labelFault.f k a b c l s false) (if chk a b c l = 0 then (if (ix l s).isSome = true then 0 else 9) else chk a b c l) := by
  unfold parcel_labelFault.f
  refine Tends.bind (a_prog a b c hz) ?_
  by_cases h : chk a b c l = 0
  · simp only [if_pos h]
    have g := chk_zero h
    obtain ⟨t, ht, _⟩ := p_parcelAt l s g.len g.srt a b c
    refine Tends.bind ht ?_
    cases (ix l s).isSome with
    | true => exact Tends.const _
    | false => exact Tends.const _
  · simp only [if_neg h]
    exact Tends.const _
theorem w_prog (a b : ByteArray) (c : Int) (hz : Zd a b l) : Tends (fun k => parcel_Within.f k a b c l s) (wAns a b c l s) := by
  unfold parcel_Within.f wAns
  refine Tends.bind (w_labelFault a b c hz) ?_
  by_cases h : chk a b c l = 0
  · simp only [if_pos h]
    have g := chk_zero h
    cases hj : ix l s with
    | none => exact Tends.const _
    | some j =>
      simp only [Option.isSome_some, if_true]
      exact w_prog_l0 g hj a b c l.length 0 [] rfl (Nat.le_refl _)
  · simp only [if_neg h]
    exact Tends.const _
theorem w_ref (a b : ByteArray) (c : Int) (hz : Zd a b l) : Tends (fun k => interchangeref10_Within.f k a b c l s) (wAns a b c l s) := by
  unfold interchangeref10_Within.f wAns
  refine Tends.bind (a_ref a b c hz) ?_
  by_cases h : chk a b c l = 0
  · simp only [if_pos h]
    have g := chk_zero h
    refine Tends.bind (p_parcelOf l s g.len) ?_
    cases hj : ix l s with
    | none => exact Tends.const _
    | some j =>
      have hglen := g.len
      obtain ⟨h1, h2⟩ := gI_lt l j l.length 0
      simp only [ixI, if_neg (show ¬ (j : Int) < 0 by omega)]
      refine Tends.bind (w_inside g hj (lab_ne g hj)) ?_
      refine Tends.bind (w_labels l (gI l j l.length 0) (fun x hx => by have := h1 x hx; omega) (by omega)) ?_
      have hl := w_ref_l0 (s := s) ((gI l j l.length 0).map (labB l)) (by rw [List.length_map]; omega) ((gI l j l.length 0).map (labB l)).length 0 [] rfl (Nat.le_refl _)
      rw [List.drop_zero, gI_filter g hj l.length 0 rfl] at hl
      exact hl
  · simp only [if_neg h]
    exact Tends.const _
theorem w_path_l0 (xs : List Nat) (hx : ∀ x ∈ xs, x < l.length) (hl : xs.length ≤ 1000) (a b : ByteArray) (c : Int) : ∀ (m i : Nat) (acc : List ByteArray), m + i = xs.length → acc.length = i + 1 → Tends (fun k => parcel_Path.l0 k acc (xs.map (fun n : Nat => (n : Int))) (xs.length : Int) (i : Int) a b c l) ((acc ++ (xs.drop i).map (labB l)).reverse, 0) := by
  intro m
  induction m with
  | zero =>
    intro i acc hi ha
    refine Tends.step (fun q => by rw [parcel_Path.l0]) ?_
    simp only [if_neg (show ¬ (i : Int) < (xs.length : Int) by omega)]
    rw [List.drop_eq_nil_of_le (by omega), List.map_nil, List.append_nil]
    exact Tends.bind (w_revStr acc (by omega)) (Tends.const _)
  | succ m ih =>
    intro i acc hi ha
    have hi' : i < xs.length := by omega
    have w1 : wrap64 ((i : Int) + 1) = ((i + 1 : Nat) : Int) := by rw [w64] <;> omega
    have hb := hx _ (List.getElem_mem hi')
    refine Tends.step (fun q => by rw [parcel_Path.l0]) ?_
    simp only [if_pos (show (i : Int) < (xs.length : Int) by omega), if_pos (show (0 : Int) ≤ (i : Int) by omega), List.length_map, rd_map xs i hi', if_pos (show (0 : Int) ≤ ((xs[i]'hi' : Nat) : Int) by omega), if_pos (show ((xs[i]'hi' : Nat) : Int) < (l.length : Int) by omega), if_pos (show acc.length < 8796093022208 by omega), w1]
    have hI := ih (i + 1) (acc ++ [labB l (xs[i]'hi')]) (by omega) (by simp; omega)
    rw [List.drop_eq_getElem_cons hi', List.map_cons]
    rw [List.append_assoc] at hI
    exact hI
theorem p_prog (a b : ByteArray) (c : Int) (hz : Zd a b l) : Tends (fun k => parcel_Path.f k a b c l s) (pAns a b c l s) := by
  unfold parcel_Path.f pAns
  refine Tends.bind (w_labelFault a b c hz) ?_
  by_cases h : chk a b c l = 0
  · simp only [if_pos h]
    have g := chk_zero h
    cases hj : ix l s with
    | none => exact Tends.const _
    | some j =>
      have hglen := g.len
      obtain ⟨hjl, hjs⟩ := ix_some hj
      simp only [Option.isSome_some, if_true]
      obtain ⟨t, ht, ht2⟩ := p_parcelAt l s g.len g.srt a b c
      obtain rfl := ht2 j hj
      refine Tends.bind ht ?_
      refine Tends.bind (h_around l g.len g.srt g.cl a b c j hjl) ?_
      have hlen := arO_len l j
      have hp := w_path_l0 (l := l) (arO (nx l) l.length j).1 (fun x hx => (arO_mem nx_lt x hx).1) (by omega) a b c (arO (nx l) l.length j).1.length 0 [s] rfl rfl
      have e : s = labB l j := (ba_ext hjs).symm
      rw [List.drop_zero] at hp
      have e2 : [s] ++ (arO (nx l) l.length j).1.map (labB l) = (j :: (arO (nx l) l.length j).1).map (labB l) := by
        rw [List.map_cons, e]
        rfl
      rw [e2] at hp
      unfold cast
      simp only [List.length_map]
      exact hp
  · simp only [if_neg h]
    exact Tends.const _
theorem p_ref (a b : ByteArray) (c : Int) (hz : Zd a b l) : Tends (fun k => interchangeref10_Path.f k a b c l s) (pAns a b c l s) := by
  unfold interchangeref10_Path.f pAns
  refine Tends.bind (a_ref a b c hz) ?_
  by_cases h : chk a b c l = 0
  · simp only [if_pos h]
    have g := chk_zero h
    refine Tends.bind (p_parcelOf l s g.len) ?_
    cases hj : ix l s with
    | none => exact Tends.const _
    | some j =>
      have hglen := g.len
      obtain ⟨hjl, hjs⟩ := ix_some hj
      simp only [ixI, if_neg (show ¬ (j : Int) < 0 by omega)]
      have hu := h_up l g.len g.cl j hjl
      rw [arO_up nx_lt g.lo hjl] at hu
      have hlen := arO_len l j
      refine Tends.bind hu ?_
      unfold cast
      refine Tends.bind (w_revInt _ (by simp; omega)) ?_
      rw [← List.map_reverse, ← List.map_reverse]
      refine Tends.bind (w_labels l _ (fun x hx => ?_) (by simp; omega)) (Tends.const _)
      rw [List.mem_reverse, List.mem_cons] at hx
      rcases hx with rfl | hx
      · exact hjl
      · exact (arO_mem nx_lt x hx).1
  · simp only [if_neg h]
    exact Tends.const _
end
theorem wAns_len (a b : ByteArray) (c : Int) (l : List SP) (s : ByteArray) : (wAns a b c l s).1.length < 4611686018427387904 := by
  unfold wAns
  by_cases h : chk a b c l = 0
  · have := (chk_zero h).len
    rw [if_pos h]
    cases ix l s with
    | none => simp
    | some j =>
      have := gW_len l j l.length 0
      simp only [List.length_map]
      omega
  · rw [if_neg h]
    simp
theorem pAns_len (a b : ByteArray) (c : Int) (l : List SP) (s : ByteArray) : (pAns a b c l s).1.length < 4611686018427387904 := by
  unfold pAns
  by_cases h : chk a b c l = 0
  · have := (chk_zero h).len
    rw [if_pos h]
    cases ix l s with
    | none => simp
    | some j =>
      have := arO_len l j
      simp only [List.length_reverse, List.length_map, List.length_cons]
      omega
  · rw [if_neg h]
    simp
/-! ### the law -/
theorem up_mono {α : Type} {F : Nat → Option α} (h : ∀ k, LeO (F k) (F (k + 1))) {v : α} {k0 : Nat} (e : F k0 = some v) : Tends F v := by
  refine ⟨k0, fun k hk => ?_⟩
  obtain ⟨d, rfl⟩ : ∃ d, k = k0 + d := ⟨k - k0, by omega⟩
  clear hk
  induction d with
  | zero => exact e
  | succ d ih => exact h _ _ ih
theorem w_awake : Tends (fun k => interchangelaw10_awake.f k) true := up_mono interchangelaw10_awake.mono (show interchangelaw10_awake.f 60 = some true by kernel_rfl)
theorem law_j (a b : ByteArray) (c : Int) {l : List SP} (s : ByteArray) (hz : Zd a b l) : Tends (fun k => interchangelaw10_ParcelAdvicesMatchSpec.j0 k s false a b c l) true := by
  refine Tends.step (fun q => by rw [interchangelaw10_ParcelAdvicesMatchSpec.j0]) ?_
  simp only [Bool.false_eq_true, if_false]
  refine Tends.bind (p_ref a b c hz) ?_
  refine Tends.bind (p_prog a b c hz) ?_
  simp only [if_true]
  refine Tends.bind (w_equal _ (pAns_len a b c l s)) ?_
  simp only [if_true]
  exact Tends.bind w_awake (Tends.const _)
theorem law_true (a b : ByteArray) (c : Int) {l : List SP} (s : ByteArray) (hz : Zd a b l) : Tends (fun k => interchangelaw10_ParcelAdvicesMatchSpec.f k a b c l s) true := by
  unfold interchangelaw10_ParcelAdvicesMatchSpec.f
  refine Tends.bind (w_ref a b c hz) ?_
  refine Tends.bind (w_prog a b c hz) ?_
  refine Tends.bind (a_ref a b c hz) ?_
  refine Tends.bind (a_prog a b c hz) ?_
  simp only [if_true]
  refine Tends.bind (w_equal _ (wAns_len a b c l s)) ?_
  exact law_j a b c s hz
end Go.Proofs.YthgefhnolmloiaaGreatDoor.P3
