/- What slices.SortStableFunc's family makes of a row, as plain functions on arrays (swapRange, rotate, symMerge, stable): no program in sight. -/
import Derived.Sort.LotA
import Derived.Shelf.SlSortCmp.Insertion
namespace Go.Proofs.YtaihfoihlbileaaDoor.R4
open Go.Sort Go.Proofs
variable {α : Type} [Inhabited α]

/-- the first i places from a on exchanged with those from b on -/
def swapR (d : Array α) (a b : Nat) : Nat → Array α
  | 0 => d
  | i + 1 => swp (swapR d a b i) (a + i) (b + i)
theorem swapR_size (d : Array α) (a b : Nat) : ∀ i, (swapR d a b i).size = d.size
  | 0 => rfl
  | i + 1 => by
    unfold swapR
    rw [size_swp, swapR_size d a b i]
/-- rotate's loop: i places ahead of m, j behind it -/
def rotL (m i j : Nat) (d : Array α) : Array α :=
  if i = j then swapR d (m - i) m i
  else if i = 0 ∨ j = 0 then d
  else if j < i then rotL m (i - j) j (swapR d (m - i) m j)
  else rotL m i (j - i) (swapR d (m - i) (m + j - i) i)
termination_by i + j
decreasing_by all_goals omega
def rotA (d : Array α) (a m b : Nat) : Array α := rotL m (m - a) (b - m) d
theorem rotL_size (m : Nat) : ∀ (n i j : Nat) (d : Array α), i + j ≤ n → (rotL m i j d).size = d.size := by
  intro n
  induction n with
  | zero =>
    intro i j d h
    obtain rfl : i = 0 := by omega
    obtain rfl : j = 0 := by omega
    rw [rotL, if_pos rfl]
    exact swapR_size ..
  | succ n ih =>
    intro i j d h
    rw [rotL]
    split
    · exact swapR_size ..
    · split
      · rfl
      · split
        · rw [ih _ _ _ (by omega), swapR_size]
        · rw [ih _ _ _ (by omega), swapR_size]
theorem rotA_size (d : Array α) (a m b : Nat) : (rotA d a m b).size = d.size := rotL_size m _ _ _ d (Nat.le_refl _)
/-- the search by halves: the first place from i on, below j, at which p fails -/
def bsL (p : Nat → Bool) (i j : Nat) : Nat :=
  if i < j then (if p ((i + j) / 2) = true then bsL p ((i + j) / 2 + 1) j else bsL p i ((i + j) / 2)) else i
termination_by j - i
decreasing_by all_goals omega
theorem bsL_le (p : Nat → Bool) : ∀ (n i j : Nat), j - i ≤ n → i ≤ j → i ≤ bsL p i j ∧ bsL p i j ≤ j := by
  intro n
  induction n with
  | zero =>
    intro i j h hij
    rw [bsL, if_neg (by omega)]
    omega
  | succ n ih =>
    intro i j h hij
    rw [bsL]
    split
    · split
      · have := ih ((i + j) / 2 + 1) j (by omega) (by omega)
        omega
      · have := ih i ((i + j) / 2) (by omega) (by omega)
        omega
    · omega
/-- data[a] up to place t -/
def shiftU (d : Array α) (a : Nat) : Nat → Array α
  | 0 => d
  | k + 1 => swp (shiftU d a k) (a + k) (a + k + 1)
/-- data[m] down by k places -/
def shiftD (d : Array α) (m : Nat) : Nat → Array α
  | 0 => d
  | k + 1 => swp (shiftD d m k) (m - k) (m - k - 1)
theorem shiftU_size (d : Array α) (a : Nat) : ∀ k, (shiftU d a k).size = d.size
  | 0 => rfl
  | k + 1 => by
    unfold shiftU
    rw [size_swp, shiftU_size d a k]
theorem shiftD_size (d : Array α) (m : Nat) : ∀ k, (shiftD d m k).size = d.size
  | 0 => rfl
  | k + 1 => by
    unfold shiftD
    rw [size_swp, shiftD_size d m k]
variable (cf : α → α → Int)
/-- where symMerge parts the two rows -/
def symS (d : Array α) (a m b : Nat) : Nat :=
  bsL (fun c => !(decide (cf d[(a + b) / 2 + m - 1 - c]! d[c]! < 0))) (if (a + b) / 2 < m then (a + b) / 2 + m - b else a) (if (a + b) / 2 < m then (a + b) / 2 else m)
def symA (d : Array α) (a m b : Nat) : Array α :=
  if m - a = 1 then shiftU d a (bsL (fun h => decide (cf d[h]! d[a]! < 0)) m b - 1 - a)
  else if b - m = 1 then shiftD d m (m - bsL (fun h => !(decide (cf d[m]! d[h]! < 0))) a m)
  else
    let s := symS cf d a m b
    let e := (a + b) / 2 + m - s
    let d1 := if s < m ∧ m < e then rotA d s m e else d
    let d2 := if a < s ∧ s < (a + b) / 2 ∧ (a + b) / 2 < b then symA d1 a s ((a + b) / 2) else d1
    if (a + b) / 2 < e ∧ e < b ∧ a < (a + b) / 2 then symA d2 ((a + b) / 2) e b else d2
termination_by b - a
decreasing_by all_goals omega
theorem symA_step (d : Array α) (a m b : Nat) (h1 : ¬ m - a = 1) (h2 : ¬ b - m = 1) : symA cf d a m b =
    (if (a + b) / 2 < (a + b) / 2 + m - symS cf d a m b ∧ (a + b) / 2 + m - symS cf d a m b < b ∧ a < (a + b) / 2 then
      symA cf (if a < symS cf d a m b ∧ symS cf d a m b < (a + b) / 2 ∧ (a + b) / 2 < b then symA cf (if symS cf d a m b < m ∧ m < (a + b) / 2 + m - symS cf d a m b then rotA d (symS cf d a m b) m ((a + b) / 2 + m - symS cf d a m b) else d) a (symS cf d a m b) ((a + b) / 2) else (if symS cf d a m b < m ∧ m < (a + b) / 2 + m - symS cf d a m b then rotA d (symS cf d a m b) m ((a + b) / 2 + m - symS cf d a m b) else d)) ((a + b) / 2) ((a + b) / 2 + m - symS cf d a m b) b
    else (if a < symS cf d a m b ∧ symS cf d a m b < (a + b) / 2 ∧ (a + b) / 2 < b then symA cf (if symS cf d a m b < m ∧ m < (a + b) / 2 + m - symS cf d a m b then rotA d (symS cf d a m b) m ((a + b) / 2 + m - symS cf d a m b) else d) a (symS cf d a m b) ((a + b) / 2) else (if symS cf d a m b < m ∧ m < (a + b) / 2 + m - symS cf d a m b then rotA d (symS cf d a m b) m ((a + b) / 2 + m - symS cf d a m b) else d))) := by
  rw [symA, if_neg h1, if_neg h2]
theorem symA_size : ∀ (N a m b : Nat) (d : Array α), b - a ≤ N → (symA cf d a m b).size = d.size := by
  intro N
  induction N with
  | zero =>
    intro a m b d h
    by_cases h1 : m - a = 1
    · rw [symA, if_pos h1, shiftU_size]
    · by_cases h2 : b - m = 1
      · rw [symA, if_neg h1, if_pos h2, shiftD_size]
      · rw [symA_step cf d a m b h1 h2, if_neg (by omega), if_neg (by omega)]
        split
        · exact rotA_size ..
        · rfl
  | succ N ih =>
    intro a m b d h
    by_cases h1 : m - a = 1
    · rw [symA, if_pos h1, shiftU_size]
    · by_cases h2 : b - m = 1
      · rw [symA, if_neg h1, if_pos h2, shiftD_size]
      · rw [symA_step cf d a m b h1 h2]
        have hr : ∀ (s e : Nat), (if s < m ∧ m < e then rotA d s m e else d).size = d.size := by
          intro s e
          split
          · exact rotA_size ..
          · rfl
        have hl : ∀ (s : Nat) (x : Array α), x.size = d.size → (if a < s ∧ s < (a + b) / 2 ∧ (a + b) / 2 < b then symA cf x a s ((a + b) / 2) else x).size = d.size := by
          intro s x hx
          split
          · rw [ih _ _ _ _ (by omega), hx]
          · exact hx
        split
        · rw [ih _ _ _ _ (by omega)]
          exact hl _ _ (hr _ _)
        · exact hl _ _ (hr _ _)
/-- blocks of 20, each sorted by insertion -/
def insB (n a : Nat) (d : Array α) : Array α :=
  if a + 20 ≤ n then insB n (a + 20) (insertionSort (ltOf cf) d a (a + 20)) else insertionSort (ltOf cf) d a n
termination_by n - a
decreasing_by omega
/-- neighbours merged -/
def mrgB (bs n a : Nat) (d : Array α) : Array α :=
  if 0 < bs ∧ a + 2 * bs ≤ n then mrgB bs n (a + 2 * bs) (symA cf d a (a + bs) (a + 2 * bs)) else if a + bs < n then symA cf d a (a + bs) n else d
termination_by n - a
decreasing_by omega
def mrgAll (n bs : Nat) (d : Array α) : Array α :=
  if 0 < bs ∧ bs < n then mrgAll n (bs * 2) (mrgB cf bs n 0 d) else d
termination_by n - bs
decreasing_by omega
def stableA (d : Array α) : Array α := mrgAll cf d.size 20 (insB cf d.size 0 d)
end Go.Proofs.YtaihfoihlbileaaDoor.R4
