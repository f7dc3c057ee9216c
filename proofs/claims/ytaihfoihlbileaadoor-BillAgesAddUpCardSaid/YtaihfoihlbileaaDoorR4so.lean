/- slices.SortStableFunc, walked at a row of pointers: the row holds stableA of what it held. -/
import Derived.Test.YtaihfoihlbileaaDoorR4sn
import Derived.Test.YtaihfoihlbileaaDoorQSs
namespace Go.Proofs.YtaihfoihlbileaaDoor.R4
open Go Go.Proofs Go.Shelf Go.RowKit Go.Lib Go.Sort
variable {α : Type} [Inhabited α]

theorem cmpReads_again {g : Nat} {cb : Array Value} {enc : α → Value} {cf : α → α → Int} {blk off : Nat} {d dk : Array α} {w : World} (q : Nat) (hs : dk.size = d.size) (hcmp : CmpReads Tryd.prog g cb enc cf blk off d.size w) : CmpReads Tryd.prog g cb enc cf blk off dk.size ((putRow enc w blk off dk).drewN q) := by
  intro m os X hX x y
  have h := hcmp (q + m) os X (hX.trans hs) x y
  have e : sortWorld enc ((putRow enc w blk off dk).drewN q) blk off m X os = sortWorld enc w blk off (q + m) X os := by
    show grow ((putRow enc ((putRow enc w blk off dk).drewN q) blk off X).drewN m) os = grow ((putRow enc w blk off X).drewN (q + m)) os
    rw [putRow_again _ _ _ _ _ _ _ _ hX]
  rw [e]
  exact h
theorem insInner_size (lt : α → α → Bool) (a : Nat) : ∀ (j : Nat) (d : Array α), (insInner lt a j d).size = d.size
  | 0, d => rfl
  | j + 1, d => by
    unfold insInner
    split
    · rw [insInner_size lt a j, size_swp]
    · rfl
theorem insOuter_size (lt : α → α → Bool) (a b : Nat) : ∀ (n i : Nat) (d : Array α), b - i ≤ n → (insOuter lt a b i d).size = d.size := by
  intro n
  induction n with
  | zero =>
    intro i d h
    rw [insOuter_stop _ _ _ _ _ (by omega)]
  | succ n ih =>
    intro i d h
    by_cases hi : i < b
    · rw [insOuter_go _ _ _ _ _ hi, ih _ _ (by omega), insInner_size]
    · rw [insOuter_stop _ _ _ _ _ hi]
theorem insertionSort_size (lt : α → α → Bool) (d : Array α) (a b : Nat) : (insertionSort lt d a b).size = d.size := insOuter_size lt a b _ _ d (Nat.le_refl _)
section
variable (enc : α → Value) (hO : OneCell enc) (cf : α → α → Int) (g : Nat) (cb : Array Value) (blk off cap : Nat) (d : Array α) (w : World) (eg : ∀ args w, (callFunc g args).run Tryd.prog w = .ok (.enter g args) w) (hcmp : CmpReads Tryd.prog g cb enc cf blk off d.size w) (hH : Holds enc w blk off d) (hsz : d.size < 2305843009213693952)
include hO eg hcmp hH hsz
theorem symMerge_at : ∀ (N a m b q : Nat) (dk : Array α), b - a ≤ N → a < m → m < b → b ≤ d.size → dk.size = d.size → Calls Tryd.prog 61 #[.slice (some ⟨blk, off, none⟩) d.size cap, .int .i64 a, .int .i64 m, .int .i64 b, .func (.func g) #[] cb] ((putRow enc w blk off dk).drewN q) fun e w' => e = .returned (.tuple #[]) ∧ ∃ q, w' = (putRow enc w blk off (symA cf dk a m b)).drewN q := by
  intro N
  induction N with
  | zero =>
    intro a m b q dk h ha hm hb hs
    omega
  | succ N ih =>
    intro a m b q dk h ha hm hb hs
    by_cases h1 : m = a + 1
    · have := symMerge_left enc hO cf g cb blk off cap d dk a m b q w eg hcmp hH hs h1 hm hb (by omega)
      rw [symA, if_pos (by omega)]
      exact this
    · by_cases h2 : b = m + 1
      · have := symMerge_right enc hO cf g cb blk off cap d dk a m b q w eg hcmp hH hs h2 (by omega) hb (by omega)
        rw [symA, if_neg (by omega), if_pos (by omega)]
        exact this
      · exact symMerge_step enc hO cf g cb blk off cap d dk a m b q w eg hcmp hH hs (by omega) (by omega) hb (by omega) (fun a' m' b' q' dk' h3 h4 h5 h6 h7 => ih a' m' b' q' dk' (by omega) h4 h5 h6 h7)
theorem insertion_at (a b q : Nat) (dk : Array α) (hab : a ≤ b) (hb : b ≤ d.size) (hs : dk.size = d.size) : Calls Tryd.prog 60 #[.slice (some ⟨blk, off, none⟩) d.size cap, .int .i64 a, .int .i64 b, .func (.func g) #[] cb] ((putRow enc w blk off dk).drewN q) fun e w' => e = .returned (.tuple #[]) ∧ ∃ q, w' = (putRow enc w blk off (insertionSort (ltOf cf) dk a b)).drewN q := by
  have h := Any.insertionSortCmpFunc_one Tryd.lf20_debt enc hO cf g cb blk off cap a b dk ((putRow enc w blk off dk).drewN q) eg (cmpReads_again q hs hcmp) (holds_again enc w blk off d dk q hH hs) hab (by omega) (by omega)
  rw [hs] at h
  refine h.mono fun e w' ⟨he, n, hw⟩ => ⟨he, q + n, ?_⟩
  rw [hw, putRow_again _ _ _ _ _ _ _ _ (insertionSort_size ..)]
end
end Go.Proofs.YtaihfoihlbileaaDoor.R4
