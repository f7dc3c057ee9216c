/- bill.OpenAt and bill.Ages where what they are given is bad: walked. -/
import Derived.Test.YtaihfoihlbileaaDoorR4po
namespace Go.Proofs.YtaihfoihlbileaaDoor.R4
open Go Go.Proofs Go.RowKit Go.Maps Go.Proofs.YtaihfoihlbileaaDoorW.PrintWords Go.Proofs.YtaihfoihlbileaaDoorW.PrintLast Go.Proofs.YtaihfoihlbileaaDoorW.PrintMore
set_option maxHeartbeats 2000000 in
set_option maxRecDepth 1000000 in
theorem open_bad (k : Nat) (A0 : Option Addr) (c0 : Nat) (l0 : List SDe) (A1 : Option Addr) (c1 : Nat) (l1 : List SPa) (nb : Nat → Bool) (mf : Nat → Int) (e1 day : Int) (w : World) (hr0 : Kd.C k44 w A0 l0.length l0) (hc0 : l0.length ≤ c0)
    (hr1 : Kd.C k35 w A1 l1.length l1) (hc1 : l1.length ≤ c1)
    (hnb : ∀ i : Nat, i < l0.length → kit_IsName.f (rdD l0 i).f0 = some (nb i)) (hmf : ∀ i : Nat, i < l0.length → bill_moneyFault.f k (rdD l0 i).f2.f0 (rdD l0 i).f2.f1 = some (mf i)) (hcp : bill_CheckPayments.f k l1 = some e1)
    (hbad : (∀ rd, ChkD l0 nb mf rd → (if rd = 0 then e1 else rd) ≠ 0) ∨ dayB day = false) :
    Calls Tryd.prog 10 #[.slice A0 l0.length c0, .slice A1 l1.length c1, .int .i64 day] w fun e w' => ∃ r : Int, e = .returned (.tuple #[.slice none 0 0, .int .i64 r]) ∧ r ≠ 0 ∧ Below w.heap.size w w' := by
  have hbf := both_calls k A0 c0 l0 A1 c1 l1 nb mf e1 w hr0 hc0 hr1 hc1 hnb hmf hcp
  have HBD : Aside _ := hbad
  clear hr0 hr1 hnb hmf hcp hbad
  go_enter Tryd.func10, Tryd.ntmps10
  go_upto_region 2 with (go_at_call 12; (with_reducible refine hbf.mono ?_); rintro e w5 ⟨r, rfl, hh, hb⟩)
  by_cases hr : r = 0
  · have hdb : dayB day = false := by
      obtain ⟨rd, g1, g2⟩ := hh
      rcases HBD.out with h | h
      · exact absurd (g2.symm.trans hr) (h rd g1)
      · exact h
    have hid := isDay_eq day
    rw [hdb] at hid
    subst hr
    have HB : Hid (Below w.heap.size w w5) := hb
    clear hh hb hdb hbf
    go_wp2_with (go_at_call 19; (with_reducible refine (kit_IsDay.calls day _ _ hid).mono ?_); rintro e w6 ⟨rfl, hb⟩)
    go_ret2
    exact ⟨1, rfl, by decide, HB.out.trans (hb.below.mono HB.out.size)⟩
  · clear hh hbf
    go_wp2
    go_ret2
    exact ⟨r, rfl, hr, hb⟩
set_option maxHeartbeats 2000000 in
set_option maxRecDepth 1000000 in
theorem ages_bad (k : Nat) (A0 : Option Addr) (c0 : Nat) (l0 : List SDe) (A1 : Option Addr) (c1 : Nat) (l1 : List SPa) (nb : Nat → Bool) (mf : Nat → Int) (e1 day : Int) (v3 : Value) (w : World) (hr0 : Kd.C k44 w A0 l0.length l0) (hc0 : l0.length ≤ c0)
    (hr1 : Kd.C k35 w A1 l1.length l1) (hc1 : l1.length ≤ c1)
    (hnb : ∀ i : Nat, i < l0.length → kit_IsName.f (rdD l0 i).f0 = some (nb i)) (hmf : ∀ i : Nat, i < l0.length → bill_moneyFault.f k (rdD l0 i).f2.f0 (rdD l0 i).f2.f1 = some (mf i)) (hcp : bill_CheckPayments.f k l1 = some e1)
    (hbad : (∀ rd, ChkD l0 nb mf rd → (if rd = 0 then e1 else rd) ≠ 0) ∨ dayB day = false) :
    Calls Tryd.prog 11 #[.slice A0 l0.length c0, .slice A1 l1.length c1, .int .i64 day, v3] w fun e w' => ∃ r : Int, e = .returned (.tuple #[.slice none 0 0, .int .i64 r]) ∧ r ≠ 0 ∧ Below w.heap.size w w' := by
  have hbf := both_calls k A0 c0 l0 A1 c1 l1 nb mf e1 w hr0 hc0 hr1 hc1 hnb hmf hcp
  have HBD : Aside _ := hbad
  clear hr0 hr1 hnb hmf hcp hbad
  go_enter Tryd.func11, Tryd.ntmps11
  go_upto_region 2 with (go_at_call 12; (with_reducible refine hbf.mono ?_); rintro e w5 ⟨r, rfl, hh, hb⟩)
  by_cases hr : r = 0
  · have hdb : dayB day = false := by
      obtain ⟨rd, g1, g2⟩ := hh
      rcases HBD.out with h | h
      · exact absurd (g2.symm.trans hr) (h rd g1)
      · exact h
    have hid := isDay_eq day
    rw [hdb] at hid
    subst hr
    have HB : Hid (Below w.heap.size w w5) := hb
    clear hh hb hdb hbf
    go_wp2_with (go_at_call 19; (with_reducible refine (kit_IsDay.calls day _ _ hid).mono ?_); rintro e w6 ⟨rfl, hb⟩)
    go_ret2
    exact ⟨1, rfl, by decide, HB.out.trans (hb.below.mono HB.out.size)⟩
  · clear hh hbf
    go_wp2
    go_ret2
    exact ⟨r, rfl, hr, hb⟩
end Go.Proofs.YtaihfoihlbileaaDoor.R4
