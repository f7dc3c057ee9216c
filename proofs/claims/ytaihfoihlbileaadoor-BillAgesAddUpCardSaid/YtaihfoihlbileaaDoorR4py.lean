/- The law of the ages, walked. -/
import Derived.Test.YtaihfoihlbileaaDoorR4pl
import Derived.Test.YtaihfoihlbileaaDoorR4pv
namespace Go.Proofs.YtaihfoihlbileaaDoor.R4
open Go Go.Proofs Go.RowKit Go.Maps Go.Proofs.YtaihfoihlbileaaDoorW.PrintWords Go.Proofs.YtaihfoihlbileaaDoorW.PrintLast Go.Proofs.YtaihfoihlbileaaDoorW.PrintMore
abbrev rdO := rd_T50
set_option maxHeartbeats 2000000 in
set_option maxRecDepth 1000000 in
theorem law2_bad (hA : AwakeOK) (A0 : Option Addr) (c0 n0 : Nat) (A1 : Option Addr) (c1 n1 : Nat) (day : Int) (v3 : Value) (w : World)
    (hO : Calls Tryd.prog 10 #[.slice A0 n0 c0, .slice A1 n1 c1, .int .i64 day] w fun e w' => ∃ r : Int, e = .returned (.tuple #[.slice none 0 0, .int .i64 r]) ∧ r ≠ 0 ∧ Below w.heap.size w w') :
    Calls Tryd.prog 4 #[.slice A0 n0 c0, .slice A1 n1 c1, .int .i64 day, v3] w fun e w' => e = .returned (.bool true) ∧ Below w.heap.size w w' := by
  have haw := awake_calls hA
  clear hA
  go_enter Tryd.func4, Tryd.ntmps4
  go_wp2_with (first | (go_at_call 10; (with_reducible refine hO.mono ?_); rintro e w5 ⟨r, rfl, hr, hB⟩; have HB5 : Hid (Below w.heap.size w _) := hB; clear hB) | (go_at_call 6; (with_reducible refine (haw _).mono ?_); rintro e w6 ⟨rfl, hB⟩; have HB6 : Hid (Below w.heap.size w _) := HB5.out.trans (hB.mono HB5.out.size)))
  go_ret
  exact ⟨rfl, HB6.out⟩
set_option maxHeartbeats 8000000 in
set_option maxRecDepth 1000000 in
theorem law2_ok (hA : AwakeOK) (k : Nat) (A0 : Option Addr) (c0 n0 : Nat) (A1 : Option Addr) (c1 n1 : Nat) (day : Int) (A2 : Option Addr) (c2 : Nat) (st : List Int) (w : World)
    (op : List SOw) (hop : op.length ≤ 200) (xs : List SPd) (hxs : xs.length ≤ 200) (ls : List SDc) (ags : List SDc) (hag : ags.length = st.length + 1) (ME : Prop)
    (hO : Calls Tryd.prog 10 #[.slice A0 n0 c0, .slice A1 n1 c1, .int .i64 day] w fun e w' => ∃ v1 : Value, e = .returned (.tuple #[v1, .int .i64 0]) ∧
      Kd.R k50 50 w' w.heap.size (fun _ => True) v1 op ∧ Below w.heap.size w w')
    (hP : ∀ w5, Below w.heap.size w w5 → Calls Tryd.prog 5 #[.slice A0 n0 c0, .slice A1 n1 c1] w5 fun e w' => ∃ v1 v2 : Value, e = .returned (.tuple #[v1, v2, .int .i64 0]) ∧
      Kd.R k37 37 w' w5.heap.size (fun _ => True) v1 xs ∧ Kd.R k32 32 w' w5.heap.size (fun _ => True) v2 ls ∧ Below w5.heap.size w5 w')
    (hG : ∀ w5, Below w.heap.size w w5 → Calls Tryd.prog 11 #[.slice A0 n0 c0, .slice A1 n1 c1, .int .i64 day, .slice A2 st.length c2] w5 fun e w' => ∃ (v1 : Value) (r : Int), e = .returned (.tuple #[v1, .int .i64 r]) ∧ (r ≠ 0 → v1 = .slice none 0 0) ∧
      (r = 0 → st.length ≤ 20 ∧ ME ∧ Kd.R k32 32 w' w5.heap.size (fun _ => True) v1 ags) ∧ Below w5.heap.size w5 w')
    (hno : ∀ i j : Nat, i < op.length → j < xs.length → sameN (rdX xs j).f0 (rdO op i).f0 = true → 0 < (rdX xs j).f3 → day < (rdX xs j).f3)
    (hmy : ME → st.length ≤ 20 → ∃ (mc1 mw1 : Bool) (mc2 mw2 : List Int), interchangeref11_Money.f k ags = some (mc1, mc2) ∧ interchangeref11_Money.f k (op.map (·.f1)) = some (mw1, mw2) ∧ interchangeref1_Cmp.f k mc1 mc2 mw1 mw2 = some 0) :
    Calls Tryd.prog 4 #[.slice A0 n0 c0, .slice A1 n1 c1, .int .i64 day, .slice A2 st.length c2] w fun e w' => e = .returned (.bool true) ∧ Below w.heap.size w w' := by
  have haw := awake_calls hA
  have HP : Aside (∀ w5, Below w.heap.size w w5 → Calls Tryd.prog 5 #[.slice A0 n0 c0, .slice A1 n1 c1] w5 fun e w' => ∃ v1 v2 : Value, e = .returned (.tuple #[v1, v2, .int .i64 0]) ∧
      Kd.R k37 37 w' w5.heap.size (fun _ => True) v1 xs ∧ Kd.R k32 32 w' w5.heap.size (fun _ => True) v2 ls ∧ Below w5.heap.size w5 w') := hP
  have HG : Aside _ := hG
  have HNO : Aside _ := hno
  have HMY : Aside _ := hmy
  have HAG : Hid (ags.length = st.length + 1) := hag
  clear hA hP hG hno hmy hag
  go_enter Tryd.func4, Tryd.ntmps4
  go_upto_region 2 with (go_at_call 10; (with_reducible refine hO.mono ?_); rintro e w5 ⟨v1, rfl, hX, hB⟩)
  have HB5 : Hid (Below w.heap.size w w5) := hB
  obtain ⟨A5, k5, rfl, hk5, _⟩ := Kd.R_reads hX
  have HO5 : Hid (Kd.R k50 50 w5 w.heap.size (fun _ => True) (.slice A5 op.length k5) op) := hX
  clear hX hB hO hk5
  go_upto_region 5 with (go_at_call 5; have hh := HP.out _ HB5.out; (with_reducible refine hh.mono ?_); clear hh; rintro e w6 ⟨v1, v2, rfl, hX, hL, hB⟩)
  have HB6 : Hid (Below w.heap.size w w6) := HB5.out.trans (hB.mono HB5.out.size)
  obtain ⟨A6, k6, rfl, hk6, _⟩ := Kd.R_reads hX
  have HX6 : Hid (Kd.R k37 37 w6 w.heap.size (fun _ => True) (.slice A6 xs.length k6) xs) := Kd.R_lower hX HB5.out.size
  have HO6 : Hid (Kd.R k50 50 w6 w.heap.size (fun _ => True) (.slice A5 op.length k5) op) := Kd.R_below HO5.out hB
  clear hX hL hB HB5 HO5 HP hk6
  go_upto_region 7 with (go_at_call 6; (with_reducible refine (haw _).mono ?_); rintro e w7 ⟨rfl, hB⟩)
  have HB7 : Hid (Below w.heap.size w w7) := HB6.out.trans (hB.mono HB6.out.size)
  have HX7 : Hid (Kd.R k37 37 w7 w.heap.size (fun _ => True) (.slice A6 xs.length k6) xs) := Kd.R_below HX6.out hB
  have HO7 : Hid (Kd.R k50 50 w7 w.heap.size (fun _ => True) (.slice A5 op.length k5) op) := Kd.R_below HO6.out hB
  clear hB HX6 HO6 HB6 haw
  go_wp2_with fail
  go_loopg [13, 49] op.length (fun g1 v13 vi wr => ∃ i : Nat, vi = .int .i64 i ∧ i ≤ op.length ∧ op.length - i ≤ g1 ∧ Hid (Below w.heap.size w wr) ∧ Hid (Kd.R k37 37 wr w.heap.size (fun _ => True) (.slice A6 xs.length k6) xs) ∧ Hid (Kd.R k50 50 wr w.heap.size (fun _ => True) (.slice A5 op.length k5) op) ∧ Hid (Kd.R k32 32 wr w.heap.size (fun _ => True) v13 ((op.take i).map (·.f1))))
  case atStart => exact ⟨0, rfl, Nat.zero_le _, Nat.le_refl _, HB7, HX7, HO7, (show Kd.R _ _ _ _ _ _ [] from Kd.R_nil _ _ _ _ _)⟩
  case round =>
    obtain ⟨i, rfl, hi, hg1, HB8, HX8, HO8, HW8⟩ := hrel
    clear HB7 HX7 HO7
    by_cases hlt : i < op.length
    · have hltz : (i : Int) < (op.length : Int) := by omega
      have hCX := (Kd.R_reads' HO8.out).2.2
      obtain ⟨ax, ex, hx0, hx1, hx2, hx3⟩ := at_T50 hCX (i : Int) (by omega) hltz
      cases ex
      simp only [Int.toNat_natCast] at hx0 hx1 hx2 hx3
      obtain ⟨x, hx⟩ : ∃ x, x = rd_T50 op i := ⟨_, rfl⟩
      rw [← hx] at hx0 hx1 hx2 hx3
      have hxi : op[i]? = some x := by
        rw [hx]
        show _ = some (op.getD (i : Int).toNat z50)
        rw [Int.toNat_natCast, List.getD_eq_getElem?_getD, List.getElem?_eq_getElem hlt]
        rfl
      have HX : Hid (rdO op i = x) := hx.symm
      have HXI : Hid (op[i]? = some x) := hxi
      obtain ⟨d, hd⟩ : ∃ d, d = x.f1 := ⟨_, rfl⟩
      rw [← hd] at hx1 hx2
      obtain ⟨al, hal⟩ : ∃ al, (op.take i).map (·.f1) = al := ⟨_, rfl⟩
      have HAL : Hid ((op.take (i + 1)).map (·.f1) = al ++ [d]) := by
        show _ = _
        rw [List.take_add_one, hxi, List.map_append, hal, hd]
        rfl
      have HAN : Hid (al.length ≤ i) := (show _ ≤ _ by rw [← hal, List.length_map, List.length_take]; omega)
      have HV8 : Hid (Kd.R k32 32 wr w.heap.size (fun _ => True) u13 al) := hal ▸ HW8.out
      clear hx hxi hCX hd hal HW8
      go_upto_region 11 with fail
      have G9 := blk_new wr (.cells #[.string x.f0, .int .i64 d.f0, .int .i64 d.f1, .int .i64 x.f2] 50 (0, 0))
      have HS9 : Hid (Below wr.heap.size wr (wr.alloc (.cells #[.string x.f0, .int .i64 d.f0, .int .i64 d.f1, .int .i64 x.f2] 50))) := (Below.refl _ _).alloc (Nat.le_refl _) _
      clear hx0 hx1 hx2 hx3
      generalize wr.heap.size = gb at G9 ⊢
      generalize wr.alloc _ = w9 at G9 HS9 ⊢
      obtain ⟨y0, y1, y2, y3⟩ := cb4 G9
      have HG9 : Hid (_ = _) := G9
      have HSM : Hid ((al.length + 1) * 16 ≤ 140737488355328) := (show _ ≤ _ by have := HAN.out; omega)
      clear G9
      go_upto_region 12 with (at_builtin; refine Kd.R_append k32 (w0 := w) w.heap.size rfl (.tmp 53) (.tmp 56) 25 32 _ 16 rfl Tryd.underlying25 info32 rfl (by decide) (by decide) u13 al d _ (fun _ => True) (fun _ => False) rfl rfl (k32_mkM _ _ _ d) (fun _ h => h.elim) (fun _ _ => trivial) (Kd.R_below HV8.out HS9.out) (HB8.out.trans (HS9.out.mono HB8.out.size)) (Nat.le_trans HB8.out.size HS9.out.size) HSM.out ?_; intro v10 w10 hR10 hB10 hg10 hor10)
      obtain ⟨inn, how⟩ := own_of (Kd.R_below HV8.out HS9.out)
      have HB10 : Hid (Below w.heap.size w w10) := hB10
      have HX10 : Hid (Kd.R k37 37 w10 w.heap.size (fun _ => True) (.slice A6 xs.length k6) xs) := R_other (Kd.R_below HX8.out HS9.out) hg10 how (by decide)
      have HO10 : Hid (Kd.R k50 50 w10 w.heap.size (fun _ => True) (.slice (some ax) op.length k5) op) := R_other (Kd.R_below HO8.out HS9.out) hg10 how (by decide)
      have HW10 : Hid (Kd.R k32 32 w10 w.heap.size (fun _ => True) v10 ((op.take (i + 1)).map (·.f1))) := by
        show Kd.R _ _ _ _ _ _ ((op.take (i + 1)).map (·.f1))
        rw [HAL.out]
        exact hR10
      have HG10 : Hid (w10.heap[gb]? = some (.cells #[.string x.f0, .int .i64 d.f0, .int .i64 d.f1, .int .i64 x.f2] 50 (0, 0))) := (hg10.block gb (blk_lt HG9.out) (row_ne how HG9.out (by intro cur e; injection e with _ e2 _; exact absurd e2 (by decide)))).trans HG9.out
      clear hR10 hB10 hg10 hor10 HB8 HX8 HO8 HV8 HS9 HG9 y0 y1 y2 y3 how HSM
      go_wp2_with fail
      go_loopg [60] xs.length (fun g2 vj wr => ∃ j : Nat, vj = .int .i64 j ∧ j ≤ xs.length ∧ xs.length - j ≤ g2 ∧ Hid (Below w10.heap.size w10 wr))
      case atStart => exact ⟨0, rfl, Nat.zero_le _, Nat.le_refl _, Below.refl _ _⟩
      case round =>
        obtain ⟨j, rfl, hj, hg2, HB11⟩ := hrel
        by_cases hlt2 : j < xs.length
        · have hltz2 : (j : Int) < (xs.length : Int) := by omega
          have hCX := (Kd.R_reads' (Kd.R_below HX10.out HB11.out)).2.2
          obtain ⟨ay, ey, hy0, hy1, hy2, hy3, hy4, hy5⟩ := at_T37 hCX (j : Int) (by omega) hltz2
          cases ey
          simp only [Int.toNat_natCast] at hy0 hy1 hy2 hy3 hy4 hy5
          obtain ⟨y, hy⟩ : ∃ y, y = rd_T37 xs j := ⟨_, rfl⟩
          have hno := HNO.out i j hlt hlt2
          rw [HX.out, show rdX xs j = y from hy.symm] at hno
          rw [← hy] at hy0 hy1 hy2 hy3 hy4 hy5
          have HNJ : Aside (sameN y.f0 x.f0 = true → 0 < y.f3 → day < y.f3) := hno
          clear hy hCX hno
          go_upto_region 15 with fail
          have G11 := blk_new wr (.cells #[.string y.f0, .int .i64 y.f1.f0, .int .i64 y.f1.f1, .int .i64 y.f2.f0, .int .i64 y.f2.f1, .int .i64 y.f3] 37 (0, 0))
          have HS11 : Hid (Below wr.heap.size wr (wr.alloc (.cells #[.string y.f0, .int .i64 y.f1.f0, .int .i64 y.f1.f1, .int .i64 y.f2.f0, .int .i64 y.f2.f1, .int .i64 y.f3] 37))) := (Below.refl _ _).alloc (Nat.le_refl _) _
          clear hy0 hy1 hy2 hy3 hy4 hy5
          generalize wr.heap.size = gy at G11 ⊢
          generalize wr.alloc _ = w12 at G11 HS11 ⊢
          obtain ⟨y0, y1, y2, y3, y4, y5⟩ := cb6 G11
          obtain ⟨x0, x1, x2, x3⟩ := cb4 (blk_below (blk_below HG10.out HB11.out) HS11.out)
          clear G11 x1 x2 x3 y1 y2 y3 y4
          by_cases hsn : sameN y.f0 x.f0 = true
          · have hs1 : (y.f0.toList == x.f0.toList) = true := hsn
            by_cases hp : 0 < y.f3
            · have hp1 : decide (0 < y.f3) = true := decide_eq_true hp
              have hd := HNJ.out hsn hp
              have hp2 : decide (y.f3 ≤ day) = false := decide_eq_false (by omega)
              clear hsn
              go_wp2
              go_roundg (xs.length - (j + 1))
              case measure => omega
              case rel => exact ⟨j + 1, by first | rfl | (congr 1; omega), by omega, Nat.le_refl _, HB11.out.trans (HS11.out.mono HB11.out.size)⟩
            · have hp1 : decide (0 < y.f3) = false := decide_eq_false hp
              clear hsn
              go_wp2
              go_roundg (xs.length - (j + 1))
              case measure => omega
              case rel => exact ⟨j + 1, by first | rfl | (congr 1; omega), by omega, Nat.le_refl _, HB11.out.trans (HS11.out.mono HB11.out.size)⟩
          · have hs1 : (y.f0.toList == x.f0.toList) = false := by
              have h9 : sameN y.f0 x.f0 = false := by simpa using hsn
              exact h9
            clear hsn
            go_wp2
            go_roundg (xs.length - (j + 1))
            case measure => omega
            case rel => exact ⟨j + 1, by first | rfl | (congr 1; omega), by omega, Nat.le_refl _, HB11.out.trans (HS11.out.mono HB11.out.size)⟩
        · have hltz2 : ¬ (j : Int) < (xs.length : Int) := by omega
          go_wp2
          go_roundg (op.length - (i + 1))
          case measure => omega
          case rel => exact ⟨i + 1, by first | rfl | (congr 1; omega), by omega, Nat.le_refl _, HB10.out.trans (HB11.out.mono HB10.out.size), Kd.R_below HX10.out HB11.out, Kd.R_below HO10.out HB11.out, Kd.R_below HW10.out HB11.out⟩
    · have hil : i = op.length := by omega
      have HW9 : Hid (Kd.R k32 32 wr w.heap.size (fun _ => True) u13 (op.map (·.f1))) := by
        have h9 := HW8.out
        rw [hil, List.take_length] at h9
        exact h9
      have hltz : ¬ (i : Int) < (op.length : Int) := by omega
      clear hil HW8
      obtain ⟨A9, k9, rfl, hk9, _⟩ := Kd.R_reads HW9.out
      rw [List.length_map] at hk9 HW9 ⊢
      go_upto_region 20 with (go_at_call 11; have hh := HG.out _ HB8.out; (with_reducible refine hh.mono ?_); clear hh; rintro e w9 ⟨v1, r, rfl, hnil, hok, hB⟩)
      have HB9 : Hid (Below w.heap.size w w9) := HB8.out.trans (hB.mono HB8.out.size)
      have HW10 : Hid (Kd.R k32 32 w9 w.heap.size (fun _ => True) (.slice A9 op.length k9) (op.map (·.f1))) := Kd.R_below HW9.out hB
      clear hB HB8 HX8 HO8 HW9 HG HNO
      by_cases hr : r = 0
      · subst hr
        obtain ⟨h20, hme, hRa⟩ := hok rfl
        obtain ⟨mc1, mw1, mc2, mw2, hm1, hm2, hcc⟩ := HMY.out hme h20
        obtain ⟨Ag, kg, rfl, hkg, hCg⟩ := Kd.R_reads hRa
        rw [HAG.out] at hkg hCg ⊢
        have hwn : IntKind.i64.wrap ((st.length : Int) + 1) = ((st.length + 1 : Nat) : Int) := by rw [i64_w]; unfold wrap64; omega
        have hcw := (Kd.R_reads' HW10.out).2.2
        rw [List.length_map] at hcw
        have HCW : Hid (Kd.C kDc w9 A9 op.length (op.map (·.f1))) := hcw
        clear hcw
        have hq1 := money_c k ags (st.length + 1) kg Ag HAG.out hkg w9 hCg mc1 mc2 hm1
        clear hnil hok hRa HMY hme h20 hkg hCg HW10
        go_wp2_with (first
          | (go_at_call 8; (with_reducible refine hq1.mono ?_); rintro e w20 ⟨A20, c20, rfl, hl20, hC20, hB20⟩)
          | (go_at_call 8; (with_reducible refine (money_c k (op.map (·.f1)) op.length k9 A9 (by rw [List.length_map]) hk9 _ (Kd.C_below HCW.out hB20) mw1 mw2 hm2).mono ?_); rintro e w21 ⟨A21, c21, rfl, hl21, hC21, hB21⟩)
          | (go_at_call 9; (with_reducible refine (interchangeref1_Cmp.calls k mc1 A20 c20 mc2 mw1 A21 c21 mw2 0 _ (Kd.C_below hC20 hB21) hl20 hC21 hl21 hcc).mono ?_); rintro e w22 ⟨rfl, hB22⟩))
        go_ret
        have b1 := HB9.out.trans (hB20.mono HB9.out.size)
        have b2 := b1.trans (hB21.mono b1.size)
        exact ⟨rfl, b2.trans (hB22.mono b2.size)⟩
      · obtain rfl := hnil hr
        clear hnil hok HMY
        go_wp2
        go_ret
        exact ⟨rfl, HB9.out⟩
end Go.Proofs.YtaihfoihlbileaaDoor.R4
