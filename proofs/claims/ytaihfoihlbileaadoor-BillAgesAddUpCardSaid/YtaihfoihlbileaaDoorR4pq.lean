/- What awake asks: one debt and one payment, evaluated. -/
import Derived.Test.YtaihfoihlbileaaDoorR4pj
namespace Go.Proofs.YtaihfoihlbileaaDoor.R4
open Go Go.Proofs Go.RowKit YtaihfoihlbileaaDoorW.PrintWords
def awT (x : Int) : SDc := if x = 70000 then ⟨7, 0⟩ else if x = 20000 then ⟨2, 0⟩ else ⟨0, 0⟩
theorem awR : runP [awD] (fun _ => 70000) (fun j o => dscV (rdD [awD] j) o) [0] [awP] (fun _ => 90000) [awP].length = (upd (iniV fun _ => 70000) 0 ⟨0, 70000, 0, 6⟩, [20000]) := by
  show runP _ _ _ _ _ _ 1 = _
  unfold runP oneP
  show ((runO _ _ _ (90000, iniV fun _ => 70000) 1).2, [] ++ [(runO _ _ _ (90000, iniV fun _ => 70000) 1).1]) = _
  have e : runO [awD] 6 [0] (90000, iniV fun _ => 70000) 1 = (20000, upd (iniV fun _ => 70000) 0 ⟨0, 70000, 0, 6⟩) := by
    show stepO [awD] 6 0 (90000, iniV fun _ => 70000) = _
    unfold stepO
    rw [if_pos ⟨by decide, by decide⟩]
    have h : payV (iniV (fun _ => 70000) 0) 90000 6 = (20000, ⟨0, 70000, 0, 6⟩) := by
      unfold payV iniV mn
      simp [w64]
    show ((payV (iniV (fun _ => 70000) 0) 90000 6).1, upd (iniV fun _ => 70000) 0 (payV (iniV (fun _ => 70000) 0) 90000 6).2) = _
    rw [h]
  show ((runO [awD] 6 [0] (90000, iniV fun _ => 70000) 1).2, [] ++ [(runO [awD] 6 [0] (90000, iniV fun _ => 70000) 1).1]) = _
  rw [e]
  rfl
theorem awM : bill_toldMoney.f 200 70000 = some (7, 0) ∧ bill_toldMoney.f 200 20000 = some (2, 0) ∧ bill_toldMoney.f 200 0 = some (0, 0) := ⟨by kernel_rfl, by kernel_rfl, by kernel_rfl⟩
theorem awake_ok : AwakeOK := by
  intro A0 A1 w h0 h1
  have hg : GoodM 7 0 := ⟨by decide, by decide, by decide, by decide, by decide⟩
  have hg2 : GoodM 9 0 := ⟨by decide, by decide, by decide, by decide, by decide⟩
  have hod : ordA (fun j => (iniD [awD] (fun _ => 70000) j).last) [awD].length = [0] := by
    obtain ⟨a, ha⟩ := List.length_eq_one_iff.1 (ordA_length (fun j => (iniD [awD] (fun _ => 70000) j).last) 1)
    have := ordA_lt (fun j => (iniD [awD] (fun _ => 70000) j).last) 1 a (by rw [ha]; simp)
    show ordA _ 1 = _
    rw [ha]
    congr 1
    omega
  have i0 : ∀ i : Nat, i < [awD].length → i = 0 := fun i hi => by simp at hi; exact hi
  have i1 : ∀ i : Nat, i < [awP].length → i = 0 := fun i hi => by simp at hi; exact hi
  have hr := awR
  obtain ⟨R, hR⟩ : ∃ R, R = runP [awD] (fun _ => 70000) (fun j o => dscV (rdD [awD] j) o) [0] [awP] (fun _ => 90000) [awP].length := ⟨_, rfl⟩
  rw [← hR] at hr
  obtain ⟨a1, a2, a3⟩ := awM
  have hP := pay_all 200 A0 1 [awD] A1 1 [awP] (fun _ => true) (fun _ => 0) (fun _ => 70000) (fun _ => 90000) (fun j o => dscV (rdD [awD] j) o) [0] awT w h0 (Nat.le_refl _) (by decide) h1 (Nat.le_refl _) (by decide)
    (fun i hi => by obtain rfl := i0 i hi; kernel_rfl) (fun i hi => by obtain rfl := i0 i hi; kernel_rfl) (by kernel_rfl) (fun i hi => by obtain rfl := i0 i hi; decide) (fun i hi => by obtain rfl := i1 i hi; decide)
    (fun i hi => by obtain rfl := i1 i hi; decide) hod (fun i hi => by obtain rfl := i0 i hi; exact cents_eq hg 200 (by decide)) (fun i hi => by obtain rfl := i0 i hi; decide)
    (fun i hi => by obtain rfl := i1 i hi; exact cents_eq hg2 200 (by decide)) (fun i hi j hj => by obtain rfl := i1 i hi; exact absurd hj (Nat.not_lt_zero _))
    (fun j hj o p t d => by obtain rfl := i0 j hj; exact discount_eq hg (by decide) (by decide) 200 (by decide) o p t d)
    (fun j hj => by obtain rfl := i0 j hj; rw [← hR, hr]; exact ⟨a1, a3⟩)
    (fun x hx => by
      rw [← hR, hr] at hx
      rw [List.mem_singleton.1 hx]
      exact a2)
  rw [← hR, hr] at hP
  exact hP
end Go.Proofs.YtaihfoihlbileaaDoor.R4
