/- What payments does between its loops: the row of pointers copied, and sorted. -/
import Derived.Test.YtaihfoihlbileaaDoorR4pk
namespace Go.Proofs.YtaihfoihlbileaaDoor.R4
open Go Go.Proofs Go.RowKit Go.Sort Go.Shelf Go.Lib Go.Proofs.YtaihfoihlbileaaDoorW.PrintWords Go.Proofs.YtaihfoihlbileaaDoorW.PrintLast Go.Proofs.YtaihfoihlbileaaDoorW.PrintMore

def encP (g : Nat) : Value := .pointer (some ⟨g, 0, none⟩)
/-- the order of n debts by their last days -/
def ordA (ls : Nat → Int) : Nat → List Nat
  | 0 => []
  | m + 1 => (stableA (fun i j : Fin (m + 1) => wrap64 (ls i - ls j)) (Array.ofFn (fun i : Fin (m + 1) => i))).toList.map (·.val)
theorem clone_any (w : World) (base n : Nat) (v : Value) (xs : List Value) (h : w.ownsRow base 58 1 v n xs) (h1 : ∀ u ∈ xs, u.oneCell' = true) (hn : n ≤ 1000) (hnil : n = 0 → v = .slice none 0 0) :
    Calls Tryd.prog 26 #[v] w fun e w' => ∃ v', e = .returned v' ∧ w'.ownsRow w.heap.size 58 1 v' n xs ∧ Below w.heap.size w w' ∧ (n = 0 → v' = .slice none 0 0) := by
  rcases h.2 with ⟨rfl, rfl⟩ | ⟨g, cap, cur, rfl, hg, hb, hnc, hcm, hcs, ht⟩
  · refine (clone_nil w).mono ?_
    rintro e w' ⟨rfl, rfl⟩
    exact ⟨_, rfl, ⟨h.1, .inl ⟨rfl, rfl⟩⟩, Below.refl _ _, fun _ => rfl⟩
  · have hn0 : n ≠ 0 := fun e => by cases hnil e
    refine (clone_calls g cap n xs w (fun j u hu => ?_) (by have := h.1; omega) h1 hn).mono ?_
    · have hj : j < n * 1 := by
        have := (List.getElem?_eq_some_iff.1 hu).1
        have := h.1
        omega
      rw [World.ownsRow.cellAt h j hj]
      exact hu
    · rintro e w' ⟨v', rfl, h2, h3, h4⟩
      exact ⟨v', rfl, h2, h4, fun e => absurd e hn0⟩
theorem sort_nil (w : World) (n : Nat) (hn : n = 0) : Calls Tryd.prog 27 #[.slice none 0 0, .func (.func 28) #[] #[]] w fun e w' => e = .returned (.tuple #[]) ∧ w' = w := by
  subst hn
  have h1 : Calls Tryd.prog 60 #[.slice none 0 0, .int .i64 0, .int .i64 0, .func (.func 28) #[] #[]] w fun e w' => e = .returned (.tuple #[]) ∧ w' = w := by
    go_enter Tryd.func60, Tryd.ntmps60
    go_wp2
    go_loopg [8] 0 (fun g1 vi wr => vi = .int .i64 1 ∧ wr = w)
    case atStart => exact ⟨rfl, rfl⟩
    case round =>
      obtain ⟨rfl, rfl⟩ := hrel
      go_wp2
      go_end0
      exact ⟨rfl, rfl⟩
  have h2 : Calls Tryd.prog 45 #[.slice none 0 0, .int .i64 0, .func (.func 28) #[] #[]] w fun e w' => e = .returned (.tuple #[]) ∧ w' = w := by
    go_enter Tryd.func45, Tryd.ntmps45
    go_wp2
    go_loopg [7, 8] 0 (fun g1 va vb wr => va = .int .i64 0 ∧ vb = .int .i64 20 ∧ wr = w)
    case atStart => exact ⟨rfl, rfl, rfl⟩
    case round =>
      obtain ⟨rfl, rfl, rfl⟩ := hrel
      go_wp2_with (go_at_call 60; (with_reducible refine h1.mono ?_); rintro e' w' ⟨rfl, rfl⟩)
      go_loopg [6] 0 (fun g1 vi wr => vi = .int .i64 20 ∧ wr = w')
      case atStart => exact ⟨rfl, rfl⟩
      case round =>
        obtain ⟨rfl, rfl⟩ := hrel
        go_wp2
        go_end0
        exact ⟨rfl, rfl⟩
  go_enter Tryd.func27, Tryd.ntmps27
  go_wp2_with (go_at_call 45; (with_reducible refine h2.mono ?_); rintro e' w' ⟨rfl, rfl⟩)
  go_end0
  exact ⟨rfl, rfl⟩
theorem sort_any (base : Nat) : ∀ (n : Nat) (gs : List Nat) (_ : gs.length = n) (_ : n ≤ 1000) (X : Nat → DS) (w : World) (v : Value) (_ : w.ownsRow base 58 1 v n (gs.map encP)) (_ : ∀ j g, gs[j]? = some g → w.heap[g]? = some (X j).obj) (_ : n = 0 → v = .slice none 0 0),
    Calls Tryd.prog 27 #[v, .func (.func 28) #[] #[]] w fun e w' => e = .returned (.tuple #[]) ∧ w'.ownsRow base 58 1 v n ((ordA (fun j => (X j).last) n).map fun j => encP (gs.getD j 0)) ∧ w.grownBy w' v.ownBlock := by
  intro n gs hl hn X w v hown hobj hnil
  cases n with
  | zero =>
    obtain rfl := hnil rfl
    refine (sort_nil w 0 rfl).mono ?_
    rintro e w' ⟨rfl, rfl⟩
    exact ⟨rfl, ⟨rfl, .inl ⟨rfl, rfl⟩⟩, ⟨rfl, rfl, rfl, Nat.le_refl _, fun _ _ _ => rfl⟩⟩
  | succ m =>
    rcases hown.2 with ⟨_, h0⟩ | ⟨blk, cap, cur, rfl, hg, hb, hnc, hcm, hcs, ht⟩
    · cases h0
    have hgs : ∀ j : Fin (m + 1), gs[j.val]? = some (gs.getD j.val 0) := fun j => by
      rw [List.getD_eq_getElem?_getD, List.getElem?_eq_getElem (by have := j.2; omega)]
      rfl
    have hne : ∀ j : Fin (m + 1), gs.getD j.val 0 ≠ blk := fun j e => by
      have h1 := hobj _ _ (hgs j)
      rw [e, hb] at h1
      have h2 := Option.some.inj h1
      unfold DS.obj at h2
      injection h2 with _ h3 _
      exact absurd h3 (by decide)
    have hc := cmp_reads (n := m + 1) (fun j => gs.getD j.val 0) (fun j => X j.val) blk 0 w (fun j => hobj _ _ (hgs j)) hne (m + 1)
    have hds : (Array.ofFn (fun i : Fin (m + 1) => i)).size = m + 1 := Array.size_ofFn
    have hH : Holds (encF (n := m + 1) (fun j => gs.getD j.val 0)) w blk 0 (Array.ofFn (fun i : Fin (m + 1) => i)) := by
      intro j hj
      rw [hds] at hj
      refine ⟨?_, World.ownsRow.frozenAt hown _⟩
      rw [Nat.zero_add, World.ownsRow.cellAt hown j (by omega), List.getElem?_map, hgs ⟨j, hj⟩, getElem!_pos _ j (by rw [hds]; exact hj), Array.getElem_ofFn]
      rfl
    have hs := sortStable_calls (encF (n := m + 1) (fun j => gs.getD j.val 0)) (encF_one _) (fun i j => wrap64 ((X i.val).last - (X j.val).last)) 28 #[] blk 0 cap (Array.ofFn (fun i : Fin (m + 1) => i)) w (fun _ _ => rfl) (by rw [hds]; exact hc) hH (by rw [hds]; omega)
    rw [hds] at hs
    refine hs.mono ?_
    rintro e w' ⟨rfl, q, rfl⟩
    have hAs := (stableA_size (fun i j : Fin (m + 1) => wrap64 ((X i.val).last - (X j.val).last)) (Array.ofFn (fun i : Fin (m + 1) => i))).trans hds
    refine ⟨rfl, ?_, ⟨rfl, rfl, rfl, ?_, ?_⟩⟩
    · rw [show ordA (fun j => (X j).last) (m + 1) = (stableA (fun i j : Fin (m + 1) => wrap64 ((X i.val).last - (X j.val).last)) (Array.ofFn (fun i : Fin (m + 1) => i))).toList.map (·.val) from rfl]
      generalize stableA (fun i j : Fin (m + 1) => wrap64 ((X i.val).last - (X j.val).last)) (Array.ofFn (fun i : Fin (m + 1) => i)) = A at hAs ⊢
      refine ⟨by simp [hAs], .inr ⟨blk, cap, putCells (encF (n := m + 1) (fun j => gs.getD j.val 0)) 0 A cur, rfl, hg, ?_, hnc, hcm, by simp [putCells, hcs], ?_⟩⟩
      · show (w.heap.modify blk _)[blk]? = _
        rw [Array.getElem?_modify, if_pos rfl, hb]
        rfl
      · apply List.ext_getElem?
        intro j
        rw [List.getElem?_take]
        by_cases hj : j < (m + 1) * 1
        · rw [if_pos hj]
          have hj2 : j < A.size := by omega
          have hj3 : j < cur.size := by have : (m + 1) * 1 ≤ cap * 1 := Nat.mul_le_mul_right 1 hnc; omega
          simp only [putCells, Array.getElem?_toList, Array.getElem?_mapIdx, List.getElem?_map, Array.getElem?_eq_getElem hj3, Array.getElem?_eq_getElem hj2, Option.map_some]
          rw [if_pos ⟨Nat.zero_le _, by omega⟩, Nat.sub_zero, getElem!_pos A j hj2]
          rfl
        · rw [if_neg hj]
          symm
          rw [List.getElem?_eq_none]
          simp [hAs]
          omega
    · show _ ≤ (w.heap.modify blk _).size
      rw [Array.size_modify]
      exact Nat.le_refl _
    · intro k hk hne2
      show (w.heap.modify blk _)[k]? = _
      rw [Array.getElem?_modify, if_neg (fun e => hne2 (congrArg some e.symm))]
end Go.Proofs.YtaihfoihlbileaaDoor.R4
