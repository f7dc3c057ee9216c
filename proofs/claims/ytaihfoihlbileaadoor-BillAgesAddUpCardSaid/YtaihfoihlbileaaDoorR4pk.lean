/- slices.Clone at []*debt, walked. -/
import Derived.Test.YtaihfoihlbileaaDoorR4pc
namespace Go.Proofs.YtaihfoihlbileaaDoor.R4
open Go Go.Proofs Go.RowKit Go.Proofs.YtaihfoihlbileaaDoorW.PrintWords Go.Proofs.YtaihfoihlbileaaDoorW.PrintLast Go.Proofs.YtaihfoihlbileaaDoorW.PrintMore
theorem info58 : (Tryd.prog.info? 58).map (fun i => (i.zero, i.size, i.bytes)) = some (some (.pointer none), 1, 8) := by kernel_rfl
theorem eql_nil (w : World) : Sem.run Tryd.prog (binOp BinOp.eql 55 (.slice none 0 0) (.slice none 0 0)) w = .ok (.bool true) w := by kernel_rfl
theorem eql_some (a : Addr) (n cap : Nat) (w : World) : Sem.run Tryd.prog (binOp BinOp.eql 55 (.slice (some a) n cap) (.slice none 0 0)) w = .ok (.bool false) w := by kernel_rfl
set_option maxHeartbeats 1000000 in
set_option maxRecDepth 1000000 in
theorem clone_nil (w : World) : Calls Tryd.prog 26 #[.slice none 0 0] w fun e w' => e = .returned (.slice none 0 0) ∧ w' = w := by
  have hq := eql_nil
  go_enter Tryd.func26, Tryd.ntmps26
  go_wp2
  go_ret
  exact ⟨rfl, rfl⟩
set_option maxHeartbeats 1000000 in
set_option maxRecDepth 1000000 in
theorem clone_calls (blk cap n : Nat) (xs : List Value) (w : World) (hc : ∀ j u, xs[j]? = some u → w.cell? ⟨blk, j, none⟩ = some u) (hl : xs.length = n) (h1 : ∀ u ∈ xs, u.oneCell' = true) (hn : n ≤ 1000) :
    Calls Tryd.prog 26 #[.slice (some ⟨blk, 0, none⟩) n cap] w fun e w' => ∃ v', e = .returned v' ∧ w'.ownsRow w.heap.size 58 1 v' n xs ∧ v' ≠ .slice none 0 0 ∧ Below w.heap.size w w' := by
  obtain ⟨i0, hi, hzz⟩ := Option.map_eq_some_iff.1 info58
  simp only [Prod.mk.injEq] at hzz
  obtain ⟨hz0, hz1, hz2⟩ := hzz
  have hq := eql_some ⟨blk, 0, none⟩ n cap
  go_enter Tryd.func26, Tryd.ntmps26
  have hown : (w.alloc (.cells #[] 58)).ownsRow w.heap.size 58 1 (.slice (some ⟨w.heap.size, 0, none⟩) 0 0) 0 [] := ⟨rfl, .inr ⟨w.heap.size, 0, #[], rfl, Nat.le_refl _, heap_alloc_new w _, Nat.le_refl _, by decide, rfl, rfl⟩⟩
  have hc2 : ∀ j u, xs[j]? = some u → (w.alloc (.cells #[] 58)).cell? ((⟨blk, 0, none⟩ : Addr).add j) = some u := by
    intro j u hu
    have h2 := hc j u hu
    have e : (⟨blk, 0, none⟩ : Addr).add j = ⟨blk, j, none⟩ := by
      unfold Addr.add
      by_cases hj : j = 0 <;> simp [hj]
    rw [e, World.cell?_alloc_lt (h := World.block_lt_of_cell? w _ h2)]
    exact h2
  go_wp2_with (at_builtin; refine wpList_append_own _ rfl _ _ 55 rfl w.heap.size 58 i0 (.pointer none) 1 8 Tryd.underlying55 hi hz0 hz1 hz2 rfl (by decide) _ 0 [] rfl hown ⟨blk, 0, none⟩ n cap xs rfl (by rw [hl, Nat.mul_one]) hc2 h1 (by unfold maxLen; omega) (by omega) (by simp) ?_; intro v' w1 hown1 hg1 hnil)
  go_ret
  refine ⟨v', rfl, by simpa using hown1, ?_, ?_⟩
  · intro e
    cases (hnil.1 e).1
  · refine Below.grown ((Below.refl _ _).alloc (Nat.le_refl _) _) hg1 (by simp) ?_
    intro b hb
    exact Nat.le_of_eq (Option.some.inj hb)
end Go.Proofs.YtaihfoihlbileaaDoor.R4
