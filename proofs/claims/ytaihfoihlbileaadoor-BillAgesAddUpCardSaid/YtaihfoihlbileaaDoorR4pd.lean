/- bill.CheckDebts, walked. -/
import Derived.Test.YtaihfoihlbileaaDoorR4pt
namespace Go.Proofs.YtaihfoihlbileaaDoor.R4
open Go Go.Proofs Go.RowKit Go.Maps Go.Proofs.YtaihfoihlbileaaDoorW.PrintWords Go.Proofs.YtaihfoihlbileaaDoorW.PrintLast Go.Proofs.YtaihfoihlbileaaDoorW.PrintMore
/-- does a debt bear this name? -/
def sameN (a b : ByteArray) : Bool := a.toList == b.toList
set_option maxHeartbeats 1000000 in
set_option maxRecDepth 1000000 in
theorem pred_calls (d : SDe) (g : Nat) (a : ByteArray) (W : World) (hg : W.cell? ⟨g, 0, none⟩ = some (.string a)) :
    Calls Tryd.prog 41 #[.agg #[.string d.f0, .int .i64 d.f1, .int .i64 d.f2.f0, .int .i64 d.f2.f1, .int .i64 d.f3, .int .i64 d.f4, .int .i64 d.f5], .pointer (some ⟨g, 0, none⟩)] W fun e w' => e = .returned (.bool (sameN d.f0 a)) ∧ Below W.heap.size W w' := by
  have hlt := World.block_lt_of_cell? W _ hg
  go_enter Tryd.func41, Tryd.ntmps41
  have hg2 : (W.alloc (.cells #[.string d.f0, .int .i64 d.f1, .int .i64 d.f2.f0, .int .i64 d.f2.f1, .int .i64 d.f3, .int .i64 d.f4, .int .i64 d.f5] 44)).cell? ⟨g, 0, none⟩ = some (.string a) := (World.cell?_alloc_lt (h := hlt) ..).trans hg
  go_wp2
  go_ret
  exact ⟨rfl, (Below.refl _ _).alloc (Nat.le_refl _) _⟩
/-- a debt's name is the name of one before it -/
def twB (l0 : List SDe) (i : Nat) : Bool := (l0.take i).any fun o => sameN o.f0 (rdD l0 i).f0
set_option maxHeartbeats 1000000 in
set_option maxRecDepth 1000000 in
theorem idx_calls (A : Option Addr) (c : Nat) (l : List SDe) (w : World) (g : Nat) (a : ByteArray) (hr : Kd.C k44 w A l.length l) (hlen : l.length ≤ 200) (hg : w.cell? ⟨g, 0, none⟩ = some (.string a)) :
    Calls Tryd.prog 56 #[.slice A l.length c, .func (.func 41) #[] #[.pointer (some ⟨g, 0, none⟩)]] w fun e w' => (∃ r : Int, e = .returned (.int .i64 r) ∧ decide (0 ≤ r) = l.any fun o => sameN o.f0 a) ∧ Below w.heap.size w w' := by
  have HR := Aside0.mk hr
  have hlt := World.block_lt_of_cell? w _ hg
  go_enter Tryd.func56, Tryd.ntmps56
  go_wp2
  go_loopg [8] l.length (fun gg s8 wr => ∃ kk : Nat, kk ≤ l.length ∧ l.length - kk ≤ gg ∧ s8 = .int .i64 (kk : Int) ∧ Hid (Below w.heap.size w wr) ∧ Hid (∀ j : Nat, j < kk → sameN (rdD l j).f0 a = false))
  case atStart => exact ⟨0, Nat.zero_le _, by omega, rfl, Below.refl _ _, (show ∀ j : Nat, j < 0 → _ from fun j hj => absurd hj (Nat.not_lt_zero _))⟩
  case round =>
    obtain ⟨kk, hkk, hgg, rfl, HBL, HA⟩ := hrel
    by_cases hlt2 : kk < l.length
    · have hltz : (kk : Int) < (l.length : Int) := by omega
      obtain ⟨ad, e0, hx0, hx1, hx2, hx3, hx4, hx5, hx6⟩ := at_T44 HR.out (kk : Int) (by omega) hltz
      cases e0
      simp only [Int.toNat_natCast] at hx0 hx1 hx2 hx3 hx4 hx5 hx6
      have HB : Aside0 (Below w.heap.size w wr) := ⟨HBL.out⟩
      replace hx0 := hz HB hx0
      replace hx1 := hz HB hx1
      replace hx2 := hz HB hx2
      replace hx3 := hz HB hx3
      replace hx4 := hz HB hx4
      replace hx5 := hz HB hx5
      replace hx6 := hz HB hx6
      have hcall := pred_calls (rd_T44 l kk) g a wr ((HBL.out.cell hlt).trans hg)
      cases hq : sameN (rd_T44 l kk).f0 a with
      | true =>
        rw [hq] at hcall
        have HQ : Hid (sameN (rdD l kk).f0 a = true) := hq
        clear hq
        go_wp2_with (go_at_call 41; (with_reducible refine hcall.mono ?_); rintro e w' ⟨rfl, hb⟩)
        go_ret
        refine ⟨⟨(kk : Int), rfl, ?_⟩, HBL.out.trans (hb.mono HBL.out.size)⟩
        rw [decide_eq_true (show (0 : Int) ≤ (kk : Int) by omega)]
        symm
        rw [List.any_eq_true]
        refine ⟨rdD l kk, ?_, HQ.out⟩
        show l.getD (kk : Int).toNat z44 ∈ l
        rw [Int.toNat_natCast, List.getD_eq_getElem?_getD, List.getElem?_eq_getElem hlt2]
        exact List.getElem_mem hlt2
      | false =>
        rw [hq] at hcall
        have HQ : Hid (sameN (rdD l kk).f0 a = false) := hq
        clear hq
        go_wp2_with (go_at_call 41; (with_reducible refine hcall.mono ?_); rintro e w' ⟨rfl, hb⟩)
        go_roundg (l.length - (kk + 1))
        case measure => omega
        case rel =>
          refine ⟨kk + 1, by omega, by omega, by first | rfl | (congr 1; omega), HBL.out.trans (hb.mono HBL.out.size), ?_⟩
          show ∀ j : Nat, j < kk + 1 → _
          intro j hj
          by_cases e : j = kk
          · subst e
            exact HQ.out
          · exact HA.out j (by omega)
    · have hltz : ¬ (kk : Int) < (l.length : Int) := by omega
      have hkl : kk = l.length := by omega
      go_wp2
      go_ret
      refine ⟨⟨-1, rfl, ?_⟩, HBL.out⟩
      symm
      rw [show decide ((0 : Int) ≤ -1) = false from rfl, List.any_eq_false]
      intro x hx
      obtain ⟨j, hj, rfl⟩ := List.getElem_of_mem hx
      have h2 := HA.out j (by omega)
      have h3 : rdD l j = l[j] := by
        show l.getD (j : Int).toNat z44 = _
        rw [Int.toNat_natCast, List.getD_eq_getElem?_getD, List.getElem?_eq_getElem hj]
        rfl
      rw [← h3, h2]
      simp
set_option maxHeartbeats 1000000 in
set_option maxRecDepth 1000000 in
theorem cont_calls (A : Option Addr) (c : Nat) (l : List SDe) (w : World) (g : Nat) (a : ByteArray) (hr : Kd.C k44 w A l.length l) (hlen : l.length ≤ 200) (hg : w.cell? ⟨g, 0, none⟩ = some (.string a)) :
    Calls Tryd.prog 40 #[.slice A l.length c, .func (.func 41) #[] #[.pointer (some ⟨g, 0, none⟩)]] w fun e w' => e = .returned (.bool (l.any fun o => sameN o.f0 a)) ∧ Below w.heap.size w w' := by
  have HI := idx_calls A c l w g a hr hlen hg
  clear hr hg
  go_enter Tryd.func40, Tryd.ntmps40
  go_wp2_with (go_at_call 56; (with_reducible refine HI.mono ?_); rintro e w' ⟨⟨r, rfl, hr⟩, hb⟩)
  go_ret
  exact ⟨by rw [← hr]; rfl, hb⟩
theorem cut44 (A : Option Addr) (n c j : Nat) (hj : j ≤ n) (hc : n ≤ c) (W : World) : (Instr.slice 22 (.slice A n c) none (some (.int .i64 (j : Int))) none).run Tryd.prog W = .ok (.slice A j c) W := by
  obtain ⟨i0, hi, _⟩ := Option.map_eq_some_iff.1 info44
  have ht := Tryd.underlying22
  have hel : Tryd.prog.elem 22 = 44 := by simp [Program.elem, ht]
  have hu : Tryd.prog.underlying 22 = some (.slice (Tryd.prog.elem 22)) := by rw [hel]; exact ht
  have ha : (A.map fun x => x.add 0) = A := by cases A <;> simp [Addr.add]
  rw [run_slice_h W 22 A n c hu .i64 (j : Int) (by omega) (by omega), hel]
  simp [sizeOf, typeInfo, hi, sliced, Result.andThen, ha]
/-- what is wrong with the i-th debt -/
def dayB (d : Int) : Bool := decide (1 ≤ d) && decide (d ≤ 3652059)
def outB (d : SDe) : Bool := (decide (d.f3 < 0) || decide (d.f3 > 10000)) || (decide (d.f4 < 0) || decide (d.f4 > d.f3)) || (decide (d.f5 < 0) || decide (d.f5 > 1000))
def dF (l0 : List SDe) (nb : Nat → Bool) (mf : Nat → Int) (i : Nat) : Int :=
  if nb i = false then 5 else if twB l0 i = true then 7 else if dayB (rdD l0 i).f1 = false then 1 else if 0 < i ∧ (rdD l0 i).f1 < (rdD l0 ((i - 1 : Nat) : Int)).f1 then 8 else if mf i ≠ 0 then mf i else if outB (rdD l0 i) = true then 1 else 0
/-- the first fault of n -/
def FirstF (f : Nat → Int) (n : Nat) (r : Int) : Prop := (r = 0 ∧ ∀ i, i < n → f i = 0) ∨ ∃ i, i < n ∧ (∀ j, j < i → f j = 0) ∧ f i = r ∧ r ≠ 0
def ChkD (l0 : List SDe) (nb : Nat → Bool) (mf : Nat → Int) (r : Int) : Prop := if l0.length > 200 then r = 2 else FirstF (dF l0 nb mf) l0.length r
theorem outside_eq (a b c : Int) : kit_Outside.f a b c = some (decide (a < b) || decide (a > c)) := by
  unfold kit_Outside.f
  by_cases h : a < b
  · rw [if_pos h, decide_eq_true h]
    rfl
  · rw [if_neg h, decide_eq_false h]
    rfl
theorem isDay_eq (a : Int) : kit_IsDay.f a = some (dayB a) := by
  unfold kit_IsDay.f
  rw [outside_eq]
  show some (!(decide (a < 1) || decide (a > 3652059))) = _
  unfold dayB
  congr 1
  by_cases h1 : a < 1 <;> by_cases h2 : a > 3652059 <;> simp [h1, h2] <;> omega
theorem chk_hit {l0 : List SDe} {nb : Nat → Bool} {mf : Nat → Int} {i : Nat} {r : Int} (hb : ¬ 200 < l0.length) (hi : i < l0.length) (hz : ∀ j, j < i → dF l0 nb mf j = 0) (h : dF l0 nb mf i = r) (hr : r ≠ 0) : ChkD l0 nb mf r := by
  unfold ChkD
  rw [if_neg hb]
  exact .inr ⟨i, hi, hz, h, hr⟩
set_option maxHeartbeats 4000000 in
set_option maxRecDepth 1000000 in
theorem debts_calls (k : Nat) (A0 : Option Addr) (c0 : Nat) (l0 : List SDe) (nb : Nat → Bool) (mf : Nat → Int) (w : World) (hr0 : Kd.C k44 w A0 l0.length l0) (hc0 : l0.length ≤ c0)
    (hnb : ∀ i : Nat, i < l0.length → kit_IsName.f (rdD l0 i).f0 = some (nb i)) (hmf : ∀ i : Nat, i < l0.length → bill_moneyFault.f k (rdD l0 i).f2.f0 (rdD l0 i).f2.f1 = some (mf i)) :
    Calls Tryd.prog 23 #[.slice A0 l0.length c0] w fun e w' => ∃ r : Int, e = .returned (.int .i64 r) ∧ ChkD l0 nb mf r ∧ Below w.heap.size w w' := by
  have HR0 := Aside0.mk hr0
  have HNB : Aside _ := hnb
  have HMF : Aside _ := hmf
  clear hnb hmf hr0
  go_enter Tryd.func23, Tryd.ntmps23
  by_cases hbig : 200 < l0.length
  · have hbigz : (200 : Int) < (l0.length : Int) := by omega
    go_wp2
    go_ret
    exact ⟨2, rfl, by unfold ChkD; rw [if_pos hbig], Below.refl _ _⟩
  · have hbigz : ¬ (200 : Int) < (l0.length : Int) := by omega
    go_wp2_with fail
    go_loopg [11] l0.length (fun g1 vi wr => ∃ i : Nat, vi = .int .i64 i ∧ i ≤ l0.length ∧ l0.length - i ≤ g1 ∧ Hid (∀ j : Nat, j < i → dF l0 nb mf j = 0) ∧ Hid (Below w.heap.size w wr))
    case atStart => exact ⟨0, rfl, Nat.zero_le _, Nat.le_refl _, (show ∀ j : Nat, j < 0 → _ from fun j hj => absurd hj (Nat.not_lt_zero _)), Below.refl _ _⟩
    case round =>
      obtain ⟨i, rfl, hi, hg1, HZ, HBL⟩ := hrel
      by_cases hlt : i < l0.length
      · have hltz : (i : Int) < (l0.length : Int) := by omega
        obtain ⟨ad, e0, hx0, hx1, hx2, hx3, hx4, hx5, hx6⟩ := at_T44 HR0.out (i : Int) (by omega) hltz
        cases e0
        simp only [Int.toNat_natCast] at hx0 hx1 hx2 hx3 hx4 hx5 hx6
        obtain ⟨d, hd⟩ : ∃ d, d = rd_T44 l0 i := ⟨_, rfl⟩
        rw [← hd] at hx0 hx1 hx2 hx3 hx4 hx5 hx6
        have HD : Hid (rdD l0 i = d) := hd.symm
        have hnm := HNB.out i hlt
        have hmo := HMF.out i hlt
        rw [show rdD l0 i = d from hd.symm] at hnm hmo
        clear hd
        have HB : Aside0 (Below w.heap.size w wr) := ⟨HBL.out⟩
        replace hx0 := hz HB hx0
        replace hx1 := hz HB hx1
        replace hx2 := hz HB hx2
        replace hx3 := hz HB hx3
        replace hx4 := hz HB hx4
        replace hx5 := hz HB hx5
        replace hx6 := hz HB hx6
        go_upto_region 6 with fail
        have BK4 : Hid ((wr.alloc (.cells #[.string d.f0, .int .i64 d.f1, .int .i64 d.f2.f0, .int .i64 d.f2.f1, .int .i64 d.f3, .int .i64 d.f4, .int .i64 d.f5] 44 (0, 0))).heap[wr.heap.size]? = some (.cells #[.string d.f0, .int .i64 d.f1, .int .i64 d.f2.f0, .int .i64 d.f2.f1, .int .i64 d.f3, .int .i64 d.f4, .int .i64 d.f5] 44 (0, 0))) := blk_new wr (.cells #[.string d.f0, .int .i64 d.f1, .int .i64 d.f2.f0, .int .i64 d.f2.f1, .int .i64 d.f3, .int .i64 d.f4, .int .i64 d.f5] 44 (0, 0))
        have HB4 : Hid (Below w.heap.size w (wr.alloc (.cells #[.string d.f0, .int .i64 d.f1, .int .i64 d.f2.f0, .int .i64 d.f2.f1, .int .i64 d.f3, .int .i64 d.f4, .int .i64 d.f5] 44 (0, 0)))) := HBL.out.alloc HBL.out.size _
        have HGB : Hid (w.heap.size ≤ wr.heap.size) := HBL.out.size
        generalize wr.heap.size = gb at BK4 HGB ⊢
        generalize wr.alloc _ = w3 at BK4 HB4 ⊢
        clear hx0 hx1 hx2 hx3 hx4 hx5 hx6 HB
        obtain ⟨y0, y1, y2, y3, y4, y5, y6⟩ := cz7 BK4.out
        have hcut := cut44 (some ad) l0.length c0 i hi hc0
        have HCT : Aside _ := fun (W : World) (hB : Below w.heap.size w W) (hg : W.cell? ⟨gb, 0, none⟩ = some (.string d.f0)) => cont_calls (some ad) c0 (l0.take i) W gb d.f0 (Kd.C_take (Kd.C_below HR0.out hB) hi) (by rw [List.length_take]; omega) hg
        rw [show (l0.take i).length = i by rw [List.length_take]; omega] at HCT
        obtain ⟨b1, hb1⟩ : ∃ b1, b1 = nb i := ⟨_, rfl⟩
        rw [← hb1] at hnm
        have HN1 : Hid (nb i = b1) := hb1.symm
        clear hb1
        obtain ⟨b2, hb2⟩ : ∃ b2, b2 = (l0.take i).any (fun o => sameN o.f0 d.f0) := ⟨_, rfl⟩
        rw [← hb2] at HCT
        have HN2 : Hid (twB l0 i = b2) := (show twB l0 i = b2 by unfold twB; rw [HD.out]; exact hb2.symm)
        clear hb2
        have hdy := isDay_eq d.f1
        obtain ⟨b3, hb3⟩ : ∃ b3, b3 = dayB d.f1 := ⟨_, rfl⟩
        rw [← hb3] at hdy
        have HN3 : Hid (dayB (rdD l0 i).f1 = b3) := (show dayB (rdD l0 i).f1 = b3 by rw [HD.out]; exact hb3.symm)
        clear hb3
        cases b1 with
        | false =>
          go_wp2_with (go_at_call 39; (with_reducible refine (kit_IsName.calls d.f0 false _ hnm).mono ?_); rintro e w5 ⟨rfl, hb⟩; have HB5 : Hid (Below w.heap.size w _) := HB4.out.trans (hb.mono HB4.out.size); have BK5 : Hid (_ = _) := blk_below BK4.out hb; clear y0 y1 y2 y3 y4 y5 y6; obtain ⟨y0, y1, y2, y3, y4, y5, y6⟩ := cz7 BK5.out)
          go_ret
          exact ⟨5, rfl, chk_hit hbig hlt HZ.out (by unfold dF; rw [if_pos HN1.out]) (by decide), HB5.out⟩
        | true =>
        cases b2 with
        | true =>
          go_wp2_with (first | (go_at_call 39; (with_reducible refine (kit_IsName.calls d.f0 true _ hnm).mono ?_); rintro e w5 ⟨rfl, hb⟩; have HB5 : Hid (Below w.heap.size w _) := HB4.out.trans (hb.mono HB4.out.size); have BK5 : Hid (_ = _) := blk_below BK4.out hb; clear y0 y1 y2 y3 y4 y5 y6; obtain ⟨y0, y1, y2, y3, y4, y5, y6⟩ := cz7 BK5.out) | (go_at_call 40; have hh := HCT.out _ HB5.out y0; (with_reducible refine hh.mono ?_); clear hh; rintro e w6 ⟨rfl, hb⟩; have HB6 : Hid (Below w.heap.size w _) := HB5.out.trans (hb.mono HB5.out.size); have BK6 : Hid (_ = _) := blk_below BK5.out hb; clear y0 y1 y2 y3 y4 y5 y6; obtain ⟨y0, y1, y2, y3, y4, y5, y6⟩ := cz7 BK6.out))
          go_ret
          exact ⟨7, rfl, chk_hit hbig hlt HZ.out (by unfold dF; rw [if_neg (by rw [HN1.out]; decide), if_pos HN2.out]) (by decide), HB6.out⟩
        | false =>
        cases b3 with
        | false =>
          go_wp2_with (first | (go_at_call 39; (with_reducible refine (kit_IsName.calls d.f0 true _ hnm).mono ?_); rintro e w5 ⟨rfl, hb⟩; have HB5 : Hid (Below w.heap.size w _) := HB4.out.trans (hb.mono HB4.out.size); have BK5 : Hid (_ = _) := blk_below BK4.out hb; clear y0 y1 y2 y3 y4 y5 y6; obtain ⟨y0, y1, y2, y3, y4, y5, y6⟩ := cz7 BK5.out) | (go_at_call 40; have hh := HCT.out _ HB5.out y0; (with_reducible refine hh.mono ?_); clear hh; rintro e w6 ⟨rfl, hb⟩; have HB6 : Hid (Below w.heap.size w _) := HB5.out.trans (hb.mono HB5.out.size); have BK6 : Hid (_ = _) := blk_below BK5.out hb; clear y0 y1 y2 y3 y4 y5 y6; obtain ⟨y0, y1, y2, y3, y4, y5, y6⟩ := cz7 BK6.out) | (go_at_call 19; (with_reducible refine (kit_IsDay.calls d.f1 false _ hdy).mono ?_); rintro e w7 ⟨rfl, ⟨nd, rfl⟩⟩))
          go_ret
          exact ⟨1, rfl, chk_hit hbig hlt HZ.out (by unfold dF; rw [if_neg (by rw [HN1.out]; decide), if_neg (by rw [HN2.out]; decide), if_pos HN3.out]) (by decide), pw_below_drewN HB6.out _⟩
        | true =>
          go_upto_region 12 with (first | (go_at_call 39; (with_reducible refine (kit_IsName.calls d.f0 true _ hnm).mono ?_); rintro e w5 ⟨rfl, hb⟩; have HB5 : Hid (Below w.heap.size w _) := HB4.out.trans (hb.mono HB4.out.size); have BK5 : Hid (_ = _) := blk_below BK4.out hb; clear y0 y1 y2 y3 y4 y5 y6; obtain ⟨y0, y1, y2, y3, y4, y5, y6⟩ := cz7 BK5.out) | (go_at_call 40; have hh := HCT.out _ HB5.out y0; (with_reducible refine hh.mono ?_); clear hh; rintro e w6 ⟨rfl, hb⟩; have HB6 : Hid (Below w.heap.size w _) := HB5.out.trans (hb.mono HB5.out.size); have BK6 : Hid (_ = _) := blk_below BK5.out hb; clear y0 y1 y2 y3 y4 y5 y6; obtain ⟨y0, y1, y2, y3, y4, y5, y6⟩ := cz7 BK6.out) | (go_at_call 19; (with_reducible refine (kit_IsDay.calls d.f1 true _ hdy).mono ?_); rintro e w7 ⟨rfl, ⟨nd, rfl⟩⟩))
          have HB7 : Hid (Below w.heap.size w (w6.drewN nd)) := pw_below_drewN HB6.out nd
          have BK7 : Hid ((w6.drewN nd).heap[gb]? = some (.cells #[.string d.f0, .int .i64 d.f1, .int .i64 d.f2.f0, .int .i64 d.f2.f1, .int .i64 d.f3, .int .i64 d.f4, .int .i64 d.f5] 44 (0, 0))) := blk_drewN BK6.out nd
          clear y0 y1 y2 y3 y4 y5 y6
          generalize w6.drewN nd = w7 at HB7 BK7 ⊢
          obtain ⟨y0, y1, y2, y3, y4, y5, y6⟩ := cz7 BK7.out
          clear HB6 BK6 HB5 BK5 HB4 BK4 HCT hcut
          go_cut [32] (fun v32 wc => ∃ b4 : Bool, v32 = .bool b4 ∧ Hid (b4 = true ↔ (0 < i ∧ d.f1 < (rdD l0 ((i - 1 : Nat) : Int)).f1)) ∧ Hid (Below w.heap.size w wc) ∧ Hid (wc.heap[gb]? = some (.cells #[.string d.f0, .int .i64 d.f1, .int .i64 d.f2.f0, .int .i64 d.f2.f1, .int .i64 d.f3, .int .i64 d.f4, .int .i64 d.f5] 44 (0, 0))))
          case first =>
            by_cases hi0 : 0 < i
            · have hi0z : (0 : Int) < (i : Int) := by omega
              obtain ⟨m, hm⟩ : ∃ m, m = i - 1 := ⟨_, rfl⟩
              have hmi : m < l0.length := by omega
              have hmz : (m : Int) < (l0.length : Int) := by omega
              have hm0 : (0 : Int) ≤ (m : Int) := by omega
              obtain ⟨ad2, e2, hv0, hv1, hv2⟩ := at_T44 HR0.out (m : Int) hm0 hmz
              cases e2
              rw [Int.toNat_natCast] at hv1
              replace hv1 := hz ⟨HB7.out⟩ hv1
              have wm : IntKind.i64.wrap ((i : Int) - 1) = (m : Int) := by rw [IntKind.wrap_i64]; omega
              have HM : Hid (m = i - 1) := hm
              clear hm hv0 hv2
              obtain ⟨pm, hpm⟩ : ∃ pm, pm = (rd_T44 l0 m).f1 := ⟨_, rfl⟩
              rw [← hpm] at hv1
              have HPM : Hid (pm = (rdD l0 m).f1) := hpm
              clear hpm
              go_wp2
              go_quiet (fail)
              try go_wp2
              go_meet
              case rel =>
                refine ⟨decide (d.f1 < pm), by first | rfl | (simp; done), (show _ ↔ _ from ?_), pw_below_drewN HB7.out _, blk_drewN BK7.out _⟩
                rw [decide_eq_true_iff, HPM.out, HM.out]
                exact ⟨fun h => ⟨hi0, h⟩, fun h => h.2⟩
            · have hi0z : ¬ (0 : Int) < (i : Int) := by omega
              have hi0d : decide ((0 : Int) < (i : Int)) = false := decide_eq_false hi0z
              go_wp2
              go_quiet (fail)
              try go_wp2
              go_meet
              case rel =>
                refine ⟨false, by first | rfl | (simp; done), (show _ ↔ _ from ?_), pw_below_drewN HB7.out _, blk_drewN BK7.out _⟩
                exact ⟨fun h => (by cases h), fun h => absurd h.1 hi0⟩
          case rest =>
            obtain ⟨b4, rfl, HO, HB8, BK8⟩ := hcut
            clear y0 y1 y2 y3 y4 y5 y6 HB7 BK7
            obtain ⟨y0, y1, y2, y3, y4, y5, y6⟩ := cz7 BK8.out
            cases b4 with
            | true =>
              go_wp2
              go_ret
              exact ⟨8, rfl, chk_hit hbig hlt HZ.out (by unfold dF; rw [if_neg (by rw [HN1.out]; decide), if_neg (by rw [HN2.out]; decide), if_neg (by rw [HN3.out]; decide), if_pos (by rw [HD.out]; exact HO.out.1 (by first | rfl | trivial))]) (by decide), HB8.out⟩
            | false =>
            have HO4 : Hid (¬ (0 < i ∧ (rdD l0 i).f1 < (rdD l0 ((i - 1 : Nat) : Int)).f1)) := fun h => by
              rw [HD.out] at h
              have := HO.out.2 h
              cases this
            obtain ⟨mv, hmv⟩ : ∃ mv, mv = mf i := ⟨_, rfl⟩
            rw [← hmv] at hmo
            have HMV : Hid (mf i = mv) := hmv.symm
            clear hmv HO
            by_cases hm0 : mv = 0
            · subst hm0
              have ho1 := outside_eq d.f3 0 10000
              have ho2 := outside_eq d.f4 0 d.f3
              have ho3 := outside_eq d.f5 0 1000
              have HO5 : Hid (outB (rdD l0 i) = ((decide (d.f3 < 0) || decide (d.f3 > 10000)) || (decide (d.f4 < 0) || decide (d.f4 > d.f3)) || (decide (d.f5 < 0) || decide (d.f5 > 1000)))) := (show outB (rdD l0 i) = _ by rw [HD.out]; rfl)
              generalize (decide (d.f3 < 0) || decide (d.f3 > 10000)) = o1 at ho1 HO5
              generalize (decide (d.f4 < 0) || decide (d.f4 > d.f3)) = o2 at ho2 HO5
              generalize (decide (d.f5 < 0) || decide (d.f5 > 1000)) = o3 at ho3 HO5
              cases o1 with
              | true =>
                go_wp2_with (first | (go_at_call 42; (with_reducible refine (bill_moneyFault.calls k _ _ 0 _ hmo).mono ?_); rintro e w9 ⟨rfl, hb⟩; have HB9 : Hid (Below w.heap.size w _) := HB8.out.trans (hb.mono HB8.out.size); have BK9 : Hid (_ = _) := blk_below BK8.out hb; clear y0 y1 y2 y3 y4 y5 y6; obtain ⟨y0, y1, y2, y3, y4, y5, y6⟩ := cz7 BK9.out) | (go_at_call 36; (with_reducible refine (kit_Outside.calls d.f3 0 10000 true _ ho1).mono ?_); rintro e w' ⟨rfl, ⟨nd1, rfl⟩⟩))
                go_ret
                exact ⟨1, rfl, chk_hit hbig hlt HZ.out (by unfold dF; rw [if_neg (by rw [HN1.out]; decide), if_neg (by rw [HN2.out]; decide), if_neg (by rw [HN3.out]; decide), if_neg HO4.out, if_neg (fun h => h HMV.out), if_pos (by rw [HO5.out]; rfl)]) (by decide), pw_below_drewN HB9.out _⟩
              | false =>
              cases o2 with
              | true =>
                go_wp2_with (first | (go_at_call 42; (with_reducible refine (bill_moneyFault.calls k _ _ 0 _ hmo).mono ?_); rintro e w9 ⟨rfl, hb⟩; have HB9 : Hid (Below w.heap.size w _) := HB8.out.trans (hb.mono HB8.out.size); have BK9 : Hid (_ = _) := blk_below BK8.out hb; clear y0 y1 y2 y3 y4 y5 y6; obtain ⟨y0, y1, y2, y3, y4, y5, y6⟩ := cz7 BK9.out) | (go_at_call 36; (with_reducible refine (kit_Outside.calls d.f3 0 10000 false _ ho1).mono ?_); rintro e w' ⟨rfl, ⟨nd1, rfl⟩⟩) | (go_at_call 36; (with_reducible refine (kit_Outside.calls d.f4 0 d.f3 true _ ho2).mono ?_); rintro e w' ⟨rfl, ⟨nd2, rfl⟩⟩))
                go_ret
                exact ⟨1, rfl, chk_hit hbig hlt HZ.out (by unfold dF; rw [if_neg (by rw [HN1.out]; decide), if_neg (by rw [HN2.out]; decide), if_neg (by rw [HN3.out]; decide), if_neg HO4.out, if_neg (fun h => h HMV.out), if_pos (by rw [HO5.out]; rfl)]) (by decide), pw_below_drewN HB9.out _⟩
              | false =>
              cases o3 with
              | true =>
                go_wp2_with (first | (go_at_call 42; (with_reducible refine (bill_moneyFault.calls k _ _ 0 _ hmo).mono ?_); rintro e w9 ⟨rfl, hb⟩; have HB9 : Hid (Below w.heap.size w _) := HB8.out.trans (hb.mono HB8.out.size); have BK9 : Hid (_ = _) := blk_below BK8.out hb; clear y0 y1 y2 y3 y4 y5 y6; obtain ⟨y0, y1, y2, y3, y4, y5, y6⟩ := cz7 BK9.out) | (go_at_call 36; (with_reducible refine (kit_Outside.calls d.f3 0 10000 false _ ho1).mono ?_); rintro e w' ⟨rfl, ⟨nd1, rfl⟩⟩) | (go_at_call 36; (with_reducible refine (kit_Outside.calls d.f4 0 d.f3 false _ ho2).mono ?_); rintro e w' ⟨rfl, ⟨nd2, rfl⟩⟩) | (go_at_call 36; (with_reducible refine (kit_Outside.calls d.f5 0 1000 true _ ho3).mono ?_); rintro e w' ⟨rfl, ⟨nd3, rfl⟩⟩))
                go_ret
                exact ⟨1, rfl, chk_hit hbig hlt HZ.out (by unfold dF; rw [if_neg (by rw [HN1.out]; decide), if_neg (by rw [HN2.out]; decide), if_neg (by rw [HN3.out]; decide), if_neg HO4.out, if_neg (fun h => h HMV.out), if_pos (by rw [HO5.out]; rfl)]) (by decide), pw_below_drewN HB9.out _⟩
              | false =>
                go_wp2_with (first | (go_at_call 42; (with_reducible refine (bill_moneyFault.calls k _ _ 0 _ hmo).mono ?_); rintro e w9 ⟨rfl, hb⟩; have HB9 : Hid (Below w.heap.size w _) := HB8.out.trans (hb.mono HB8.out.size); have BK9 : Hid (_ = _) := blk_below BK8.out hb; clear y0 y1 y2 y3 y4 y5 y6; obtain ⟨y0, y1, y2, y3, y4, y5, y6⟩ := cz7 BK9.out) | (go_at_call 36; (with_reducible refine (kit_Outside.calls d.f3 0 10000 false _ ho1).mono ?_); rintro e w' ⟨rfl, ⟨nd1, rfl⟩⟩) | (go_at_call 36; (with_reducible refine (kit_Outside.calls d.f4 0 d.f3 false _ ho2).mono ?_); rintro e w' ⟨rfl, ⟨nd2, rfl⟩⟩) | (go_at_call 36; (with_reducible refine (kit_Outside.calls d.f5 0 1000 false _ ho3).mono ?_); rintro e w' ⟨rfl, ⟨nd3, rfl⟩⟩))
                go_roundg (l0.length - (i + 1))
                case measure => omega
                case rel =>
                  refine ⟨i + 1, by first | rfl | (congr 1; omega), by omega, Nat.le_refl _, ?_, pw_below_drewN HB9.out _⟩
                  show ∀ j : Nat, j < i + 1 → dF l0 nb mf j = 0
                  intro j hj
                  rcases Nat.lt_succ_iff_lt_or_eq.1 hj with h | rfl
                  · exact HZ.out j h
                  · unfold dF
                    rw [if_neg (by rw [HN1.out]; decide), if_neg (by rw [HN2.out]; decide), if_neg (by rw [HN3.out]; decide), if_neg HO4.out, if_neg (fun h => h HMV.out), if_neg (by rw [HO5.out]; decide)]
            · go_wp2_with (go_at_call 42; (with_reducible refine (bill_moneyFault.calls k _ _ mv _ hmo).mono ?_); rintro e w9 ⟨rfl, hb⟩; have HB9 : Hid (Below w.heap.size w _) := HB8.out.trans (hb.mono HB8.out.size); have BK9 : Hid (_ = _) := blk_below BK8.out hb; clear y0 y1 y2 y3 y4 y5 y6; obtain ⟨y0, y1, y2, y3, y4, y5, y6⟩ := cz7 BK9.out)
              go_ret
              exact ⟨mv, rfl, chk_hit hbig hlt HZ.out (by unfold dF; rw [if_neg (by rw [HN1.out]; decide), if_neg (by rw [HN2.out]; decide), if_neg (by rw [HN3.out]; decide), if_neg HO4.out, if_pos (fun h => hm0 (HMV.out.symm.trans h)), HMV.out]) hm0, HB9.out⟩
      · have hltz : ¬ (i : Int) < (l0.length : Int) := by omega
        have hil : i = l0.length := by omega
        go_wp2
        go_ret
        exact ⟨0, rfl, by unfold ChkD; rw [if_neg hbig]; exact .inl ⟨rfl, fun j hj => HZ.out j (by omega)⟩, HBL.out⟩
end Go.Proofs.YtaihfoihlbileaaDoor.R4
