-- Made by a program of this session out of the translation (wip/pp.py): functions, contracts.
import Derived.Test.YthgefhnolmloiaaGreatDoorP3x0
import Derived.Test.YthgefhnolmloiaaGreatDoorP3x12
import Derived.Test.YthgefhnolmloiaaGreatDoorP3x16
namespace Go.Proofs.YthgefhnolmloiaaGreatDoor.P3
open Go.RowKit Go.Proofs.YthgefhnolmloiaaGreatDoorW.PrintWords Go.Proofs.YthgefhnolmloiaaGreatDoorW.PrintLast Go.Proofs.YthgefhnolmloiaaGreatDoorW.PrintMore
attribute [local go_sem] max2_int min2_int max_two min_two max_three min_three max_four min_four   -- for this text's walks alone
set_option linter.unusedVariables false
set_option linter.unusedSimpArgs false

/-! ### parcel_around: function 30 -/
def parcel_around.l0 : Nat → Int → List Int → Int → ByteArray → ByteArray → Int → List (S42) → Option (List Int × Bool)
 | 0, _, _, _, _, _, _, _ => none
 | k + 1, x1, x6, x7, x395000, x395001, x395002, x395003 => if 0 ≤ x7 then (if x7 < (x395003.length : Int) then (if ((rd_T42 x395003 x7).f1).toList = ([] : List UInt8) then (some (x6, true)) else ((parcel_parcelAt.f k x395000 x395001 x395002 x395003 ((rd_T42 x395003 x7).f1)).bind fun bt397 => (if bt397.1 = x1 then (some (([] : List Int), false)) else ((slices_Contains_int_int.f k x6 bt397.1).bind fun t399 => (if t399 = true then (some (x6, true)) else (if x6.length < 17592186044416 then (parcel_around.l0 k x1 (x6 ++ [bt397.1]) bt397.1 x395000 x395001 x395002 x395003) else (none))))))) else (none)) else (none)
def parcel_around.f (k : Nat) (a0_0 : ByteArray) (a0_1 : ByteArray) (a0_2 : Int) (l0_3 : List (S42)) (a1 : Int) : Option (List Int × Bool) := parcel_around.l0 k a1 ([] : List Int) a1 a0_0 a0_1 a0_2 l0_3
theorem parcel_around.mono_l : ∀ k, (∀ y0 y1 y2 y3 y4 y5 y6, LeO (parcel_around.l0 k y0 y1 y2 y3 y4 y5 y6) (parcel_around.l0 (k + 1) y0 y1 y2 y3 y4 y5 y6))
 | 0 => fun _ _ _ _ _ _ _ r h => by simp [parcel_around.l0] at h
 | k + 1 => by
  have ih0 := parcel_around.mono_l k
  ·intro y0 y1 y2 y3 y4 y5 y6
   unfold parcel_around.l0
   repeat' first | with_reducible first | exact ih0 _ _ _ _ _ _ _ | exact parcel_parcelAt.mono _ _ _ _ _ _ | exact slices_Contains_int_int.mono _ _ _ | exact lr _ | exact ln _ | refine li ?_ ?_ | refine lb ?_ fun _ => ?_ | exact ih0 _ _ _ _ _ _ _ | exact parcel_parcelAt.mono _ _ _ _ _ _ | exact slices_Contains_int_int.mono _ _ _ | exact ln _ | refine li ?_ ?_ | refine lb ?_ fun _ => ?_
theorem parcel_around.mono : ∀ a0 a1 a2 a3 a4 k, LeO (parcel_around.f k a0 a1 a2 a3 a4) (parcel_around.f (k + 1) a0 a1 a2 a3 a4) := by
 intro a0 a1 a2 a3 a4 k
 have ih0 := parcel_around.mono_l k
 unfold parcel_around.f
 repeat' first | with_reducible first | exact ih0 _ _ _ _ _ _ _ | exact parcel_parcelAt.mono _ _ _ _ _ _ | exact slices_Contains_int_int.mono _ _ _ | exact lr _ | exact ln _ | refine li ?_ ?_ | refine lb ?_ fun _ => ?_ | exact ih0 _ _ _ _ _ _ _ | exact parcel_parcelAt.mono _ _ _ _ _ _ | exact slices_Contains_int_int.mono _ _ _ | exact ln _ | refine li ?_ ?_ | refine lb ?_ fun _ => ?_
def parcel_around.T4 : Bool × List (List Nat × List Nat) := (true, [([], []), ([], []), ([1], [1]), ([], []), ([2, 3], [2, 3]), ([4], [4]), ([5], [5]), ([0, 6], [0, 6]), ([7], [7]), ([8], [8]), ([8], [8]), ([9, 7, 0, 1, 2, 3, 4, 5, 6, 7, 8, 9], [3, 9])])
def parcel_around.B4 : List Nat := [0, 0, 2, 0, 14, 30, 62, 127, 255, 511, 511, 1023]
theorem parcel_around.tab4 : rtab .any (opsOf Tryz.f30 4) = parcel_around.T4 := by kernel_rfl
theorem parcel_around.bits4 : waitsOk parcel_around.T4.2 parcel_around.B4 = true := by kernel_rfl
set_option maxHeartbeats 8000000 in
set_option maxRecDepth 100000 in
theorem parcel_around.calls (k : Nat) (a0_0 : ByteArray) (a0_1 : ByteArray) (a0_2 : Int) (A0_3 : Option Addr) (c0_3 : Nat) (l0_3 : List (S42)) (a1 : Int) (r1 : List Int) (r2 : Bool) (w : World) (hr0_3 : Kd.C k42 w A0_3 l0_3.length l0_3) (hc0_3 : l0_3.length ≤ c0_3) (h : parcel_around.f k a0_0 a0_1 a0_2 l0_3 a1 = some (r1, r2)) :
  Calls Tryz.prog 30 #[.agg #[.string a0_0, .string a0_1, .int .i64 a0_2, .slice A0_3 l0_3.length c0_3], .int .i64 a1] w fun e w' => ∃ v0_ : Value, e = .returned (.tuple #[v0_, .bool r2]) ∧ Kd.R (Kd.int .i64) 3 w' w.heap.size (fun _ => True) v0_ r1 ∧ Below w.heap.size w w' := by
 have hu24 := Tryz.underlying24
 have HR0_3 := Aside0.mk hr0_3
 have HC0_3 := Aside0.mk hc0_3
 clear hr0_3 hc0_3
 have HB := Aside0.mk (Below.refl w.heap.size w)
 have H := h
 unfold parcel_around.f at H
 clear h
 have H' := Aside0.mk H
 clear H
 go_enter Tryz.func30, Tryz.ntmps30
 go_wp2_with (first | ((with_reducible refine gD 2 rfl ?_); refine bx w 2 #[.string a0_0, .string a0_1, .int .i64 a0_2, .slice A0_3 l0_3.length c0_3] 24 ?_; intro gb394 hg w3 hb BK394 GW394 GE394; clear HB; intro HB; clear hb hg))
 try simp only [sq]
 go_loopg [6, 7] k (fun kq v6 v7 w' => ∃ (x6_1 : List Int) (x7_1 : Int), v7 = .int .i64 x7_1 ∧ Aside0 (parcel_around.l0 kq a1 x6_1 x7_1 a0_0 a0_1 a0_2 l0_3 = some (r1, r2)) ∧ Aside0 (kq ≤ k) ∧ Aside0 (Kd.R (Kd.int .i64) 3 w' w.heap.size (fun _ => True) v6 x6_1) ∧ Aside0 (w'.heap[gb394]? = some (.cells #[.string a0_0, .string a0_1, .int .i64 a0_2, (.slice A0_3 l0_3.length c0_3)] 24 (0, 0))) ∧ Aside0 (Below w.heap.size w w'))
 case atStart => exact ⟨(([] : List Int)), (a1), ar, H', ⟨Nat.le_refl _⟩, ⟨by first | exact Kd.R_nil _ _ _ _ _ | exact Kd.N_nil _ _ _ _ _ | exact Kd.V_nil _ _ _ _ _ | exact Kd.Q_nil _ _ _ _ _ | exact Kd.S_nil _ _ _ _ _⟩, ⟨(zk BK394)⟩, ⟨(zb w)⟩⟩
 case round =>
  clear H'
  try clear p2
  try clear c3
  obtain ⟨x6_1, x7_1, rfl, HA, HK1, HO_6, BK394, HB⟩ := hrel
  cases gk with
  | zero => exact absurd HA.out (by simp [parcel_around.l0])
  | succ k1 =>
   have H := HA.out
   clear HA
   simp only [parcel_around.l0] at H
   by_cases c4 : 0 ≤ x7_1
   ·rw [if_pos c4] at H
    have c4b0 : decide (0 ≤ x7_1) = true := decide_eq_true c4
    clear c4
    by_cases c5 : x7_1 < (l0_3.length : Int)
    ·rw [if_pos c5] at H
     have c5b0 : decide (x7_1 < (l0_3.length : Int)) = true := decide_eq_true c5
     clear c5
     by_cases c6 : ((rd_T42 l0_3 x7_1).f1).toList = ([] : List UInt8)
     ·rw [if_pos c6] at H
      have c6b0 : (((rd_T42 l0_3 x7_1).f1).toList == ([] : List UInt8)) = true := beq_iff_eq.mpr c6
      have c6b1 : (((rd_T42 l0_3 x7_1).f1).toList != ([] : List UInt8)) = false := bne_eq_false_iff_eq.mpr c6
      clear c6
      simp only [Option.some.injEq, Prod.mk.injEq] at H
      obtain ⟨rfl, rfl⟩ := H
      obtain ⟨hcz7_0, hcz7_1, hcz7_2, hcz7_3, hfz7_0, hfz7_1, hfz7_2, hfz7_3⟩ := cz4 BK394
      have p395 : 0 ≤ (x7_1 : Int) := of_decide_eq_true (by assumption)
      have q395 : x7_1 < (l0_3.length : Int) := of_decide_eq_true (by assumption)
      obtain ⟨ad395, A395_4, c395_4, e395, hx395_0, hx395_1, hx395_2, hx395_3, hx395_4, hl395_4, hi395_4⟩ := at_T42 HR0_3.out x7_1 p395 q395
      cases e395
      replace hx395_0 := hz HB hx395_0
      replace hx395_1 := hz HB hx395_1
      replace hx395_2 := hz HB hx395_2
      replace hx395_3 := hz HB hx395_3
      replace hx395_4 := hz HB hx395_4
      have HR395_4 := Aside0.mk hi395_4
      have HC395_4 := Aside0.mk hl395_4
      clear hi395_4 hl395_4
      replace p395 := eq_true p395
      replace q395 := eq_true q395
      go_wp2
      go_ret2
      exact ⟨_, by first | rfl | (simp [errW_none, errW_some] <;> rfl) | (simp [*, errW_none, errW_some] <;> rfl), by (with_reducible repeat (first | apply Kd.R_alloc | apply Kd.R_drewN | apply Kd.R_drew)); exact HO_6.out, (zb w)⟩
     ·rw [if_neg c6] at H
      have c6b0 : (((rd_T42 l0_3 x7_1).f1).toList == ([] : List UInt8)) = false := beq_eq_false_iff_ne.mpr c6
      have c6b1 : (((rd_T42 l0_3 x7_1).f1).toList != ([] : List UInt8)) = true := bne_iff_ne.mpr c6
      replace H := Option.bind_eq_some_iff.mp H
      obtain ⟨⟨t397, t398⟩, A80, H⟩ := H
      try dsimp only at H
      have A8 := Aside0.mk A80
      clear A80
      by_cases c9 : t397 = a1
      ·rw [if_pos c9] at H
       have c9b0 : (t397 == a1) = true := beq_iff_eq.mpr c9
       have c9b1 : (t397 != a1) = false := bne_eq_false_iff_eq.mpr c9
       clear c9
       simp only [Option.some.injEq, Prod.mk.injEq] at H
       obtain ⟨rfl, rfl⟩ := H
       obtain ⟨hcz10_0, hcz10_1, hcz10_2, hcz10_3, hfz10_0, hfz10_1, hfz10_2, hfz10_3⟩ := cz4 BK394
       have p395 : 0 ≤ (x7_1 : Int) := of_decide_eq_true (by assumption)
       have q395 : x7_1 < (l0_3.length : Int) := of_decide_eq_true (by assumption)
       obtain ⟨ad395, A395_4, c395_4, e395, hx395_0, hx395_1, hx395_2, hx395_3, hx395_4, hl395_4, hi395_4⟩ := at_T42 HR0_3.out x7_1 p395 q395
       cases e395
       replace hx395_0 := hz HB hx395_0
       replace hx395_1 := hz HB hx395_1
       replace hx395_2 := hz HB hx395_2
       replace hx395_3 := hz HB hx395_3
       replace hx395_4 := hz HB hx395_4
       have HR395_4 := Aside0.mk hi395_4
       have HC395_4 := Aside0.mk hl395_4
       clear hi395_4 hl395_4
       replace p395 := eq_true p395
       replace q395 := eq_true q395
       try go_wp2
       have n0_ := Aside0.mk (Kd.R_drew HO_6.out)
       have n1_ := Aside0.mk (blk_drew BK394.out)
       have n2_ := Aside0.mk (below_drew1 HB.out)
       clear HO_6
       clear BK394
       clear HB
       have HO_6 := n0_
       have BK394 := n1_
       have HB := n2_
       clear n0_ n1_ n2_
       have p396 : 0 ≤ (x7_1 : Int) := of_decide_eq_true (by assumption)
       have q396 : x7_1 < (l0_3.length : Int) := of_decide_eq_true (by assumption)
       obtain ⟨ad396, A396_4, c396_4, e396, hx396_0, hx396_1, hx396_2, hx396_3, hx396_4, hl396_4, hi396_4⟩ := at_T42 HR0_3.out x7_1 p396 q396
       have hw396_4 := hx396_4
       have hw396_3 := hx396_3
       have hw396_2 := hx396_2
       have hw396_1 := hx396_1
       have hw396_0 := hx396_0
       obtain rfl : ad395 = ad396 := (by injection e396)
       replace hx396_0 := hz HB hx396_0
       replace hx396_1 := hz HB hx396_1
       replace hx396_2 := hz HB hx396_2
       replace hx396_3 := hz HB hx396_3
       replace hx396_4 := hz HB hx396_4
       have HR396_4 := Aside0.mk hi396_4
       have HC396_4 := Aside0.mk hl396_4
       clear hi396_4 hl396_4
       replace p396 := eq_true p396
       replace q396 := eq_true q396
       refine start_ (n := 12) (S := fun w' => w'.cell? ⟨gb394, 0, none⟩ = some (.string a0_0) ∧ w'.cell? ⟨gb394, 1, none⟩ = some (.string a0_1) ∧ w'.cell? ⟨gb394, 2, none⟩ = some (.int .i64 a0_2) ∧ w'.cell? ⟨gb394, 3, none⟩ = some (.slice (some ad395) l0_3.length c0_3) ∧ w'.cell? (ad395.add ((x7_1).toNat * 5)) = some (.string ((rd_T42 l0_3 x7_1).f0)) ∧ w'.cell? ⟨(ad395.add ((x7_1).toNat * 5)).block, (ad395.add ((x7_1).toNat * 5)).off + 1, none⟩ = some (.string ((rd_T42 l0_3 x7_1).f1)) ∧ w'.cell? ⟨(ad395.add ((x7_1).toNat * 5)).block, (ad395.add ((x7_1).toNat * 5)).off + 2, none⟩ = some (.int .i64 ((rd_T42 l0_3 x7_1).f2.f0)) ∧ w'.cell? ⟨(ad395.add ((x7_1).toNat * 5)).block, (ad395.add ((x7_1).toNat * 5)).off + 3, none⟩ = some (.int .i64 ((rd_T42 l0_3 x7_1).f2.f1)) ∧ w'.cell? ⟨(ad395.add ((x7_1).toNat * 5)).block, (ad395.add ((x7_1).toNat * 5)).off + 4, none⟩ = some (.slice A396_4 ((rd_T42 l0_3 x7_1).f3).length c396_4)) (ds := []) (bm 12 0) (by kernel_rfl) rfl rfl ⟨(blk_cell BK394.out 0).trans rfl, (blk_cell BK394.out 1).trans rfl, (blk_cell BK394.out 2).trans rfl, (blk_cell BK394.out 3).trans rfl, ((HB.out.cell (World.block_lt_of_cell? w _ hw396_0)).trans hw396_0), ((HB.out.cell (World.block_lt_of_cell? w _ hw396_1)).trans hw396_1), ((HB.out.cell (World.block_lt_of_cell? w _ hw396_2)).trans hw396_2), ((HB.out.cell (World.block_lt_of_cell? w _ hw396_3)).trans hw396_3), ((HB.out.cell (World.block_lt_of_cell? w _ hw396_4)).trans hw396_4)⟩ (fun hHeld => ?_); refine with_tabW parcel_around.tab4 parcel_around.bits4 (fun HT_ HW_ => ?_)
       generalize wr.drew = w11 at HO_6 BK394 HB HR396_4 hx396_0 hx396_1 hx396_2 hx396_3 hx396_4 hHeld ⊢
       refine pu 1 18 (bm 12 2) HT_ ?_
       refine pu 3 20 (bm 12 10) HT_ ?_
       refine ta9 0 17 (bm 12 11) HT_ HW_ hHeld ?_
       refine ta9 2 19 (bm 12 15) HT_ HW_ hHeld ?_
       refine pu 4 21 (bm 12 31) HT_ ?_
       refine pu 5 22 (bm 12 63) HT_ ?_
       refine ta9 6 23 (bm 12 127) HT_ HW_ hHeld ?_
       refine one_ (i := 7) (N := some 24) (bm 12 255) rfl rfl (one_of HT_.out (by kernel_rfl)) (by decide) (fun K hK => ?_)
       refine gs Tryz.func29 #[.agg #[.string a0_0, .string a0_1, .int .i64 a0_2, .slice (some ad395) l0_3.length c0_3], .string ((rd_T42 l0_3 x7_1).f1)] ?_
       with_reducible refine (parcel_parcelAt.calls k1 a0_0 a0_1 a0_2 _ _ l0_3 ((rd_T42 l0_3 x7_1).f1) t397 t398 _ (zc HR0_3) HC0_3.out A8.out).mono ?_
       rintro e w12 ⟨rfl, hb⟩
       refine ⟨_, rfl, ?_⟩
       have n0_ := rb HO_6 hb
       have n1_ := bb BK394 hb
       have n2_ := hs w hb
       clear HO_6
       clear BK394
       clear HB
       have HO_6 := n0_
       have BK394 := n1_
       have HB := n2_
       clear n0_ n1_ n2_
       (try clear hb)
       (try clear hb2)
       (try clear hk)
       (try clear hi)
       refine hK.out _ _ ⟨(blk_cell BK394.out 0).trans rfl, (blk_cell BK394.out 1).trans rfl, (blk_cell BK394.out 2).trans rfl, (blk_cell BK394.out 3).trans rfl, ((HB.out.cell (World.block_lt_of_cell? w _ hw396_0)).trans hw396_0), ((HB.out.cell (World.block_lt_of_cell? w _ hw396_1)).trans hw396_1), ((HB.out.cell (World.block_lt_of_cell? w _ hw396_2)).trans hw396_2), ((HB.out.cell (World.block_lt_of_cell? w _ hw396_3)).trans hw396_3), ((HB.out.cell (World.block_lt_of_cell? w _ hw396_4)).trans hw396_4)⟩ (fun hHeld => ?_)
       clear hK K
       refine norm_ (a' := ?_) ?_ ?_
       rotate_left
       ·show Act.put _ (some 24) _ = _
        simp only [sq, i64_w, i32_w]
        rfl
       refine pu 8 16 (bm 12 511) HT_ ?_
       refine pu 9 25 (bm 12 1023) HT_ ?_
       refine pu 10 26 (bm 12 2047) HT_ ?_
       refine pu 11 7 (bm 12 4095) HT_ ?_
       refine done_ (done_of HT_.out (by kernel_rfl)) ?_
       try go_wp2
       go_ret2
       exact ⟨_, by first | rfl | (simp [errW_none, errW_some] <;> rfl) | (simp [*, errW_none, errW_some] <;> rfl), by first | exact Kd.R_nil _ _ _ _ _ | exact Kd.N_nil _ _ _ _ _ | exact Kd.V_nil _ _ _ _ _ | exact Kd.Q_nil _ _ _ _ _ | exact Kd.S_nil _ _ _ _ _, (zb w)⟩
      ·rw [if_neg c9] at H
       have c9b0 : (t397 == a1) = false := beq_eq_false_iff_ne.mpr c9
       have c9b1 : (t397 != a1) = true := bne_iff_ne.mpr c9
       replace H := Option.bind_eq_some_iff.mp H
       obtain ⟨t399, A130, H⟩ := H
       try dsimp only at H
       have A13 := Aside0.mk A130
       clear A130
       by_cases c14 : t399 = true
       ·subst c14
        have H1 : (some (x6_1, true)) = some (r1, r2) := by rw [if_pos rfl] at H; exact H
        clear H
        have H := H1
        clear H1
        simp only [Option.some.injEq, Prod.mk.injEq] at H
        obtain ⟨rfl, rfl⟩ := H
        obtain ⟨hcz15_0, hcz15_1, hcz15_2, hcz15_3, hfz15_0, hfz15_1, hfz15_2, hfz15_3⟩ := cz4 BK394
        have p395 : 0 ≤ (x7_1 : Int) := of_decide_eq_true (by assumption)
        have q395 : x7_1 < (l0_3.length : Int) := of_decide_eq_true (by assumption)
        obtain ⟨ad395, A395_4, c395_4, e395, hx395_0, hx395_1, hx395_2, hx395_3, hx395_4, hl395_4, hi395_4⟩ := at_T42 HR0_3.out x7_1 p395 q395
        cases e395
        replace hx395_0 := hz HB hx395_0
        replace hx395_1 := hz HB hx395_1
        replace hx395_2 := hz HB hx395_2
        replace hx395_3 := hz HB hx395_3
        replace hx395_4 := hz HB hx395_4
        have HR395_4 := Aside0.mk hi395_4
        have HC395_4 := Aside0.mk hl395_4
        clear hi395_4 hl395_4
        replace p395 := eq_true p395
        replace q395 := eq_true q395
        try go_wp2
        have n0_ := Aside0.mk (Kd.R_drew HO_6.out)
        have n1_ := Aside0.mk (blk_drew BK394.out)
        have n2_ := Aside0.mk (below_drew1 HB.out)
        clear HO_6
        clear BK394
        clear HB
        have HO_6 := n0_
        have BK394 := n1_
        have HB := n2_
        clear n0_ n1_ n2_
        have p396 : 0 ≤ (x7_1 : Int) := of_decide_eq_true (by assumption)
        have q396 : x7_1 < (l0_3.length : Int) := of_decide_eq_true (by assumption)
        obtain ⟨ad396, A396_4, c396_4, e396, hx396_0, hx396_1, hx396_2, hx396_3, hx396_4, hl396_4, hi396_4⟩ := at_T42 HR0_3.out x7_1 p396 q396
        have hw396_4 := hx396_4
        have hw396_3 := hx396_3
        have hw396_2 := hx396_2
        have hw396_1 := hx396_1
        have hw396_0 := hx396_0
        obtain rfl : ad395 = ad396 := (by injection e396)
        replace hx396_0 := hz HB hx396_0
        replace hx396_1 := hz HB hx396_1
        replace hx396_2 := hz HB hx396_2
        replace hx396_3 := hz HB hx396_3
        replace hx396_4 := hz HB hx396_4
        have HR396_4 := Aside0.mk hi396_4
        have HC396_4 := Aside0.mk hl396_4
        clear hi396_4 hl396_4
        replace p396 := eq_true p396
        replace q396 := eq_true q396
        refine start_ (n := 12) (S := fun w' => w'.cell? ⟨gb394, 0, none⟩ = some (.string a0_0) ∧ w'.cell? ⟨gb394, 1, none⟩ = some (.string a0_1) ∧ w'.cell? ⟨gb394, 2, none⟩ = some (.int .i64 a0_2) ∧ w'.cell? ⟨gb394, 3, none⟩ = some (.slice (some ad395) l0_3.length c0_3) ∧ w'.cell? (ad395.add ((x7_1).toNat * 5)) = some (.string ((rd_T42 l0_3 x7_1).f0)) ∧ w'.cell? ⟨(ad395.add ((x7_1).toNat * 5)).block, (ad395.add ((x7_1).toNat * 5)).off + 1, none⟩ = some (.string ((rd_T42 l0_3 x7_1).f1)) ∧ w'.cell? ⟨(ad395.add ((x7_1).toNat * 5)).block, (ad395.add ((x7_1).toNat * 5)).off + 2, none⟩ = some (.int .i64 ((rd_T42 l0_3 x7_1).f2.f0)) ∧ w'.cell? ⟨(ad395.add ((x7_1).toNat * 5)).block, (ad395.add ((x7_1).toNat * 5)).off + 3, none⟩ = some (.int .i64 ((rd_T42 l0_3 x7_1).f2.f1)) ∧ w'.cell? ⟨(ad395.add ((x7_1).toNat * 5)).block, (ad395.add ((x7_1).toNat * 5)).off + 4, none⟩ = some (.slice A396_4 ((rd_T42 l0_3 x7_1).f3).length c396_4)) (ds := []) (bm 12 0) (by kernel_rfl) rfl rfl ⟨(blk_cell BK394.out 0).trans rfl, (blk_cell BK394.out 1).trans rfl, (blk_cell BK394.out 2).trans rfl, (blk_cell BK394.out 3).trans rfl, ((HB.out.cell (World.block_lt_of_cell? w _ hw396_0)).trans hw396_0), ((HB.out.cell (World.block_lt_of_cell? w _ hw396_1)).trans hw396_1), ((HB.out.cell (World.block_lt_of_cell? w _ hw396_2)).trans hw396_2), ((HB.out.cell (World.block_lt_of_cell? w _ hw396_3)).trans hw396_3), ((HB.out.cell (World.block_lt_of_cell? w _ hw396_4)).trans hw396_4)⟩ (fun hHeld => ?_); refine with_tabW parcel_around.tab4 parcel_around.bits4 (fun HT_ HW_ => ?_)
        generalize wr.drew = w16 at HO_6 BK394 HB HR396_4 hx396_0 hx396_1 hx396_2 hx396_3 hx396_4 hHeld ⊢
        refine pu 1 18 (bm 12 2) HT_ ?_
        refine pu 3 20 (bm 12 10) HT_ ?_
        refine ta9 0 17 (bm 12 11) HT_ HW_ hHeld ?_
        refine ta9 2 19 (bm 12 15) HT_ HW_ hHeld ?_
        refine pu 4 21 (bm 12 31) HT_ ?_
        refine pu 5 22 (bm 12 63) HT_ ?_
        refine ta9 6 23 (bm 12 127) HT_ HW_ hHeld ?_
        refine one_ (i := 7) (N := some 24) (bm 12 255) rfl rfl (one_of HT_.out (by kernel_rfl)) (by decide) (fun K hK => ?_)
        refine gs Tryz.func29 #[.agg #[.string a0_0, .string a0_1, .int .i64 a0_2, .slice (some ad395) l0_3.length c0_3], .string ((rd_T42 l0_3 x7_1).f1)] ?_
        with_reducible refine (parcel_parcelAt.calls k1 a0_0 a0_1 a0_2 _ _ l0_3 ((rd_T42 l0_3 x7_1).f1) t397 t398 _ (zc HR0_3) HC0_3.out A8.out).mono ?_
        rintro e w17 ⟨rfl, hb⟩
        refine ⟨_, rfl, ?_⟩
        have n0_ := rb HO_6 hb
        have n1_ := bb BK394 hb
        have n2_ := hs w hb
        clear HO_6
        clear BK394
        clear HB
        have HO_6 := n0_
        have BK394 := n1_
        have HB := n2_
        clear n0_ n1_ n2_
        (try clear hb)
        (try clear hb2)
        (try clear hk)
        (try clear hi)
        refine hK.out _ _ ⟨(blk_cell BK394.out 0).trans rfl, (blk_cell BK394.out 1).trans rfl, (blk_cell BK394.out 2).trans rfl, (blk_cell BK394.out 3).trans rfl, ((HB.out.cell (World.block_lt_of_cell? w _ hw396_0)).trans hw396_0), ((HB.out.cell (World.block_lt_of_cell? w _ hw396_1)).trans hw396_1), ((HB.out.cell (World.block_lt_of_cell? w _ hw396_2)).trans hw396_2), ((HB.out.cell (World.block_lt_of_cell? w _ hw396_3)).trans hw396_3), ((HB.out.cell (World.block_lt_of_cell? w _ hw396_4)).trans hw396_4)⟩ (fun hHeld => ?_)
        clear hK K
        refine norm_ (a' := ?_) ?_ ?_
        rotate_left
        ·show Act.put _ (some 24) _ = _
         simp only [sq, i64_w, i32_w]
         rfl
        refine pu 8 16 (bm 12 511) HT_ ?_
        refine pu 9 25 (bm 12 1023) HT_ ?_
        refine pu 10 26 (bm 12 2047) HT_ ?_
        refine pu 11 7 (bm 12 4095) HT_ ?_
        refine done_ (done_of HT_.out (by kernel_rfl)) ?_
        obtain ⟨Ao18, co18, eo18⟩ := Kd.R_slice HO_6.out
        subst eo18
        try go_wp2_with (first | ((with_reducible refine gC 33 rfl ?_); refine gl_ 32 Tryz.func33 #[.slice Ao18 x6_1.length co18, .int .i64 t397] ?_; (with_reducible refine (slices_Contains_int_int.calls k1 _ _ x6_1 t397 true _ ?side1 ?side2 A13.out).mono ?_); (case side1 => repeat (first | exact (Kd.R_reads' HO_6.out).2.2 | (with_reducible refine Kd.C_alloc ?_ _) | (with_reducible refine Kd.C_drewN ?_ _) | (with_reducible refine Kd.C_drew ?_))); (case side2 => exact (Kd.R_reads' HO_6.out).2.1); rintro e w' ⟨rfl, ⟨nd, rfl⟩⟩; refine ⟨_, rfl, ?_⟩))
        go_ret2
        exact ⟨_, by first | rfl | (simp [errW_none, errW_some] <;> rfl) | (simp [*, errW_none, errW_some] <;> rfl), by (with_reducible repeat (first | apply Kd.R_alloc | apply Kd.R_drewN | apply Kd.R_drew)); exact HO_6.out, (zb w)⟩
       ·replace c14 := Bool.eq_false_iff.mpr c14
        subst c14
        have H1 : (if x6_1.length < 17592186044416 then (parcel_around.l0 k1 a1 (x6_1 ++ [t397]) t397 a0_0 a0_1 a0_2 l0_3) else (none)) = some (r1, r2) := by rw [if_neg (show ¬ (false = true) by decide)] at H; exact H
        clear H
        have H := H1
        clear H1
        by_cases c19 : x6_1.length < 17592186044416
        ·rw [if_pos c19] at H
         have LMc19 := Aside0.mk c19
         clear c19
         obtain ⟨y400, hy400⟩ : ∃ y_ : List Int, y_ = (x6_1 ++ [t397]) := ⟨_, rfl⟩
         replace H : (parcel_around.l0 k1 a1 y400 t397 a0_0 a0_1 a0_2 l0_3) = some (r1, r2) := by first | (rw [hy400]; with_reducible exact H) | (have H2_ := (Option.bind_some _ _).symm.trans H; rw [hy400]; with_reducible exact H2_) | (have H2_ := (Option.bind_some _ _).symm.trans H; with_reducible exact H2_) | with_reducible exact H | (rw [hy400]; exact H) | exact H
         have Ny400 := Aside0.mk hy400
         clear hy400
         have H' := Aside0.mk H
         clear H
         obtain ⟨hcz20_0, hcz20_1, hcz20_2, hcz20_3, hfz20_0, hfz20_1, hfz20_2, hfz20_3⟩ := cz4 BK394
         have p395 : 0 ≤ (x7_1 : Int) := of_decide_eq_true (by assumption)
         have q395 : x7_1 < (l0_3.length : Int) := of_decide_eq_true (by assumption)
         obtain ⟨ad395, A395_4, c395_4, e395, hx395_0, hx395_1, hx395_2, hx395_3, hx395_4, hl395_4, hi395_4⟩ := at_T42 HR0_3.out x7_1 p395 q395
         cases e395
         replace hx395_0 := hz HB hx395_0
         replace hx395_1 := hz HB hx395_1
         replace hx395_2 := hz HB hx395_2
         replace hx395_3 := hz HB hx395_3
         replace hx395_4 := hz HB hx395_4
         have HR395_4 := Aside0.mk hi395_4
         have HC395_4 := Aside0.mk hl395_4
         clear hi395_4 hl395_4
         replace p395 := eq_true p395
         replace q395 := eq_true q395
         try go_wp2
         have n0_ := Aside0.mk (Kd.R_drew HO_6.out)
         have n1_ := Aside0.mk (blk_drew BK394.out)
         have n2_ := Aside0.mk (below_drew1 HB.out)
         clear HO_6
         clear BK394
         clear HB
         have HO_6 := n0_
         have BK394 := n1_
         have HB := n2_
         clear n0_ n1_ n2_
         have p396 : 0 ≤ (x7_1 : Int) := of_decide_eq_true (by assumption)
         have q396 : x7_1 < (l0_3.length : Int) := of_decide_eq_true (by assumption)
         obtain ⟨ad396, A396_4, c396_4, e396, hx396_0, hx396_1, hx396_2, hx396_3, hx396_4, hl396_4, hi396_4⟩ := at_T42 HR0_3.out x7_1 p396 q396
         have hw396_4 := hx396_4
         have hw396_3 := hx396_3
         have hw396_2 := hx396_2
         have hw396_1 := hx396_1
         have hw396_0 := hx396_0
         obtain rfl : ad395 = ad396 := (by injection e396)
         replace hx396_0 := hz HB hx396_0
         replace hx396_1 := hz HB hx396_1
         replace hx396_2 := hz HB hx396_2
         replace hx396_3 := hz HB hx396_3
         replace hx396_4 := hz HB hx396_4
         have HR396_4 := Aside0.mk hi396_4
         have HC396_4 := Aside0.mk hl396_4
         clear hi396_4 hl396_4
         replace p396 := eq_true p396
         replace q396 := eq_true q396
         refine start_ (n := 12) (S := fun w' => w'.cell? ⟨gb394, 0, none⟩ = some (.string a0_0) ∧ w'.cell? ⟨gb394, 1, none⟩ = some (.string a0_1) ∧ w'.cell? ⟨gb394, 2, none⟩ = some (.int .i64 a0_2) ∧ w'.cell? ⟨gb394, 3, none⟩ = some (.slice (some ad395) l0_3.length c0_3) ∧ w'.cell? (ad395.add ((x7_1).toNat * 5)) = some (.string ((rd_T42 l0_3 x7_1).f0)) ∧ w'.cell? ⟨(ad395.add ((x7_1).toNat * 5)).block, (ad395.add ((x7_1).toNat * 5)).off + 1, none⟩ = some (.string ((rd_T42 l0_3 x7_1).f1)) ∧ w'.cell? ⟨(ad395.add ((x7_1).toNat * 5)).block, (ad395.add ((x7_1).toNat * 5)).off + 2, none⟩ = some (.int .i64 ((rd_T42 l0_3 x7_1).f2.f0)) ∧ w'.cell? ⟨(ad395.add ((x7_1).toNat * 5)).block, (ad395.add ((x7_1).toNat * 5)).off + 3, none⟩ = some (.int .i64 ((rd_T42 l0_3 x7_1).f2.f1)) ∧ w'.cell? ⟨(ad395.add ((x7_1).toNat * 5)).block, (ad395.add ((x7_1).toNat * 5)).off + 4, none⟩ = some (.slice A396_4 ((rd_T42 l0_3 x7_1).f3).length c396_4)) (ds := []) (bm 12 0) (by kernel_rfl) rfl rfl ⟨(blk_cell BK394.out 0).trans rfl, (blk_cell BK394.out 1).trans rfl, (blk_cell BK394.out 2).trans rfl, (blk_cell BK394.out 3).trans rfl, ((HB.out.cell (World.block_lt_of_cell? w _ hw396_0)).trans hw396_0), ((HB.out.cell (World.block_lt_of_cell? w _ hw396_1)).trans hw396_1), ((HB.out.cell (World.block_lt_of_cell? w _ hw396_2)).trans hw396_2), ((HB.out.cell (World.block_lt_of_cell? w _ hw396_3)).trans hw396_3), ((HB.out.cell (World.block_lt_of_cell? w _ hw396_4)).trans hw396_4)⟩ (fun hHeld => ?_); refine with_tabW parcel_around.tab4 parcel_around.bits4 (fun HT_ HW_ => ?_)
         generalize wr.drew = w21 at HO_6 BK394 HB HR396_4 hx396_0 hx396_1 hx396_2 hx396_3 hx396_4 hHeld ⊢
         refine pu 1 18 (bm 12 2) HT_ ?_
         refine pu 3 20 (bm 12 10) HT_ ?_
         refine ta9 0 17 (bm 12 11) HT_ HW_ hHeld ?_
         refine ta9 2 19 (bm 12 15) HT_ HW_ hHeld ?_
         refine pu 4 21 (bm 12 31) HT_ ?_
         refine pu 5 22 (bm 12 63) HT_ ?_
         refine ta9 6 23 (bm 12 127) HT_ HW_ hHeld ?_
         refine one_ (i := 7) (N := some 24) (bm 12 255) rfl rfl (one_of HT_.out (by kernel_rfl)) (by decide) (fun K hK => ?_)
         refine gs Tryz.func29 #[.agg #[.string a0_0, .string a0_1, .int .i64 a0_2, .slice (some ad395) l0_3.length c0_3], .string ((rd_T42 l0_3 x7_1).f1)] ?_
         with_reducible refine (parcel_parcelAt.calls k1 a0_0 a0_1 a0_2 _ _ l0_3 ((rd_T42 l0_3 x7_1).f1) t397 t398 _ (zc HR0_3) HC0_3.out A8.out).mono ?_
         rintro e w22 ⟨rfl, hb⟩
         refine ⟨_, rfl, ?_⟩
         have n0_ := rb HO_6 hb
         have n1_ := bb BK394 hb
         have n2_ := hs w hb
         clear HO_6
         clear BK394
         clear HB
         have HO_6 := n0_
         have BK394 := n1_
         have HB := n2_
         clear n0_ n1_ n2_
         (try clear hb)
         (try clear hb2)
         (try clear hk)
         (try clear hi)
         refine hK.out _ _ ⟨(blk_cell BK394.out 0).trans rfl, (blk_cell BK394.out 1).trans rfl, (blk_cell BK394.out 2).trans rfl, (blk_cell BK394.out 3).trans rfl, ((HB.out.cell (World.block_lt_of_cell? w _ hw396_0)).trans hw396_0), ((HB.out.cell (World.block_lt_of_cell? w _ hw396_1)).trans hw396_1), ((HB.out.cell (World.block_lt_of_cell? w _ hw396_2)).trans hw396_2), ((HB.out.cell (World.block_lt_of_cell? w _ hw396_3)).trans hw396_3), ((HB.out.cell (World.block_lt_of_cell? w _ hw396_4)).trans hw396_4)⟩ (fun hHeld => ?_)
         clear hK K
         refine norm_ (a' := ?_) ?_ ?_
         rotate_left
         ·show Act.put _ (some 24) _ = _
          simp only [sq, i64_w, i32_w]
          rfl
         refine pu 8 16 (bm 12 511) HT_ ?_
         refine pu 9 25 (bm 12 1023) HT_ ?_
         refine pu 10 26 (bm 12 2047) HT_ ?_
         refine pu 11 7 (bm 12 4095) HT_ ?_
         refine done_ (done_of HT_.out (by kernel_rfl)) ?_
         obtain ⟨Ao23, co23, eo23⟩ := Kd.R_slice HO_6.out
         subst eo23
         try go_wp2_with (first | ((with_reducible refine gC 33 rfl ?_); refine gl_ 32 Tryz.func33 #[.slice Ao23 x6_1.length co23, .int .i64 t397] ?_; (with_reducible refine (slices_Contains_int_int.calls k1 _ _ x6_1 t397 false _ ?side1 ?side2 A13.out).mono ?_); (case side1 => repeat (first | exact (Kd.R_reads' HO_6.out).2.2 | (with_reducible refine Kd.C_alloc ?_ _) | (with_reducible refine Kd.C_drewN ?_ _) | (with_reducible refine Kd.C_drew ?_))); (case side2 => exact (Kd.R_reads' HO_6.out).2.1); rintro e w' ⟨rfl, ⟨nd, rfl⟩⟩; refine ⟨_, rfl, ?_⟩) | ((with_reducible refine gate_builtin (b := .append) (xs := #[.tmp 34, .tmp 36]) rfl ?_); at_builtin; refine Kd.R_append (Kd.int .i64) (w0 := w) w.heap.size rfl (.tmp 34) (.tmp 36) 35 3 (.int .i64 0) 8 rfl Tryz.underlying35 info3 rfl (by decide) (by omega) (.slice Ao23 x6_1.length co23) x6_1 t397 [.int .i64 t397] (fun _ => True) (fun _ => False) rfl rfl ?aP (fun _ hk => hk.elim) ?aF ?aO ?aB ?aS ?aL ?_; (case aP => exact rfl); (case aB => exact (zb w)); (case aF => exact (fun _ _ => trivial)); (case aO => exact (zo HO_6)); (case aS => exact (below_size (zb w))); (case aL => have := LMc19.out; omega); intro v401 w24 ho hb hg hat; rw [← Ny400.out] at ho; replace BK394 := Aside0.mk (blk_grown (g := gb394) (o := .cells #[.string a0_0, .string a0_1, .int .i64 a0_2, .slice (some ad395) l0_3.length c0_3] 24 (0, 0)) (zk BK394) hg (Kd.R_ne HO_6.out BK394.out (by decide))); replace HB := Aside0.mk (hb); have HO402 := Aside0.mk (ho); clear HO_6; clear ho hb hg hat))
         go_roundg k1
         case measure => have := HK1.out; omega
         case rel => exact ⟨(y400), (t397), ar, H', ⟨by have := HK1.out; omega⟩, ⟨zo HO402⟩, ⟨(zk BK394)⟩, ⟨(zb w)⟩⟩
        ·rw [if_neg c19] at H
         exact absurd H (by simp)
    ·rw [if_neg c5] at H
     exact absurd H (by simp)
   ·rw [if_neg c4] at H
    exact absurd H (by simp)

end Go.Proofs.YthgefhnolmloiaaGreatDoor.P3
