-- Made by a program of this session out of the translation (wip/pp.py): functions, contracts.
import Derived.Test.YthgefhnolmloiaaGreatDoorP3x0
import Derived.Test.YthgefhnolmloiaaGreatDoorP3x11
import Derived.Test.YthgefhnolmloiaaGreatDoorP3x12
import Derived.Test.YthgefhnolmloiaaGreatDoorP3x19
import Derived.Test.YthgefhnolmloiaaGreatDoorP3x20
import Derived.Test.YthgefhnolmloiaaGreatDoorP3x21
import Derived.Test.YthgefhnolmloiaaGreatDoorP3x22
namespace Go.Proofs.YthgefhnolmloiaaGreatDoor.P3
open Go.RowKit Go.Proofs.YthgefhnolmloiaaGreatDoorW.PrintWords Go.Proofs.YthgefhnolmloiaaGreatDoorW.PrintLast Go.Proofs.YthgefhnolmloiaaGreatDoorW.PrintMore
attribute [local go_sem] max2_int min2_int max_two min_two max_three min_three max_four min_four   -- for this text's walks alone
set_option linter.unusedVariables false
set_option linter.unusedSimpArgs false

/-! ### interchangelaw10_ParcelAdvicesMatchSpec: function 3 -/
def interchangelaw10_ParcelAdvicesMatchSpec.j0 : Nat → ByteArray → Bool → ByteArray → ByteArray → Int → List (S42) → Option (Bool)
 | 0, _, _, _, _, _, _ => none
 | k + 1, x1, x36, x492000, x492001, x492002, x492003 => if x36 = true then (some false) else ((interchangeref10_Path.f k x492000 x492001 x492002 x492003 x1).bind fun bt503 => ((parcel_Path.f k x492000 x492001 x492002 x492003 x1).bind fun bt507 => (if bt507.2 = bt503.2 then ((slices_Equal_string_string.f k bt507.1 bt503.1).bind fun t511 => (if t511 = true then ((interchangelaw10_awake.f k).bind fun t512 => (some t512)) else (some false))) else (some false))))
def interchangelaw10_ParcelAdvicesMatchSpec.f (k : Nat) (a0_0 : ByteArray) (a0_1 : ByteArray) (a0_2 : Int) (l0_3 : List (S42)) (a1 : ByteArray) : Option (Bool) := (interchangeref10_Within.f k a0_0 a0_1 a0_2 l0_3 a1).bind fun bt492 => ((parcel_Within.f k a0_0 a0_1 a0_2 l0_3 a1).bind fun bt496 => ((interchangeref10_CheckAdvice.f k a0_0 a0_1 a0_2 l0_3).bind fun t500 => ((parcel_CheckAdvice.f k a0_0 a0_1 a0_2 l0_3).bind fun t501 => (if t500 = t501 then (if bt496.2 = bt492.2 then ((slices_Equal_string_string.f k bt496.1 bt492.1).bind fun t502 => (interchangelaw10_ParcelAdvicesMatchSpec.j0 k a1 (!t502) a0_0 a0_1 a0_2 l0_3)) else (interchangelaw10_ParcelAdvicesMatchSpec.j0 k a1 true a0_0 a0_1 a0_2 l0_3)) else (interchangelaw10_ParcelAdvicesMatchSpec.j0 k a1 true a0_0 a0_1 a0_2 l0_3)))))
theorem interchangelaw10_ParcelAdvicesMatchSpec.mono_l : ∀ k, (∀ y0 y1 y2 y3 y4 y5, LeO (interchangelaw10_ParcelAdvicesMatchSpec.j0 k y0 y1 y2 y3 y4 y5) (interchangelaw10_ParcelAdvicesMatchSpec.j0 (k + 1) y0 y1 y2 y3 y4 y5))
 | 0 => fun _ _ _ _ _ _ r h => by simp [interchangelaw10_ParcelAdvicesMatchSpec.j0] at h
 | k + 1 => by
  have ih0 := interchangelaw10_ParcelAdvicesMatchSpec.mono_l k
  ·intro y0 y1 y2 y3 y4 y5
   unfold interchangelaw10_ParcelAdvicesMatchSpec.j0
   repeat' first | with_reducible first | exact ih0 _ _ _ _ _ _ | exact interchangelaw10_awake.mono _ | exact interchangeref10_CheckAdvice.mono _ _ _ _ _ | exact interchangeref10_Path.mono _ _ _ _ _ _ | exact interchangeref10_Within.mono _ _ _ _ _ _ | exact parcel_CheckAdvice.mono _ _ _ _ _ | exact parcel_Path.mono _ _ _ _ _ _ | exact parcel_Within.mono _ _ _ _ _ _ | exact slices_Equal_string_string.mono _ _ _ | exact lr _ | exact ln _ | refine li ?_ ?_ | refine lb ?_ fun _ => ?_ | exact ih0 _ _ _ _ _ _ | exact interchangelaw10_awake.mono _ | exact interchangeref10_CheckAdvice.mono _ _ _ _ _ | exact interchangeref10_Path.mono _ _ _ _ _ _ | exact interchangeref10_Within.mono _ _ _ _ _ _ | exact parcel_CheckAdvice.mono _ _ _ _ _ | exact parcel_Path.mono _ _ _ _ _ _ | exact parcel_Within.mono _ _ _ _ _ _ | exact slices_Equal_string_string.mono _ _ _ | exact ln _ | refine li ?_ ?_ | refine lb ?_ fun _ => ?_
theorem interchangelaw10_ParcelAdvicesMatchSpec.mono : ∀ a0 a1 a2 a3 a4 k, LeO (interchangelaw10_ParcelAdvicesMatchSpec.f k a0 a1 a2 a3 a4) (interchangelaw10_ParcelAdvicesMatchSpec.f (k + 1) a0 a1 a2 a3 a4) := by
 intro a0 a1 a2 a3 a4 k
 have ih0 := interchangelaw10_ParcelAdvicesMatchSpec.mono_l k
 unfold interchangelaw10_ParcelAdvicesMatchSpec.f
 repeat' first | with_reducible first | exact ih0 _ _ _ _ _ _ | exact interchangelaw10_awake.mono _ | exact interchangeref10_CheckAdvice.mono _ _ _ _ _ | exact interchangeref10_Path.mono _ _ _ _ _ _ | exact interchangeref10_Within.mono _ _ _ _ _ _ | exact parcel_CheckAdvice.mono _ _ _ _ _ | exact parcel_Path.mono _ _ _ _ _ _ | exact parcel_Within.mono _ _ _ _ _ _ | exact slices_Equal_string_string.mono _ _ _ | exact lr _ | exact ln _ | refine li ?_ ?_ | refine lb ?_ fun _ => ?_ | exact ih0 _ _ _ _ _ _ | exact interchangelaw10_awake.mono _ | exact interchangeref10_CheckAdvice.mono _ _ _ _ _ | exact interchangeref10_Path.mono _ _ _ _ _ _ | exact interchangeref10_Within.mono _ _ _ _ _ _ | exact parcel_CheckAdvice.mono _ _ _ _ _ | exact parcel_Path.mono _ _ _ _ _ _ | exact parcel_Within.mono _ _ _ _ _ _ | exact slices_Equal_string_string.mono _ _ _ | exact ln _ | refine li ?_ ?_ | refine lb ?_ fun _ => ?_
def interchangelaw10_ParcelAdvicesMatchSpec.T3 : Bool × List (List Nat × List Nat) := (true, [([], []), ([0], [0]), ([], []), ([2, 1], [2]), ([1, 3], [1, 3]), ([4, 3], [4]), ([5], [5]), ([5], [5]), ([6, 7, 5], [5, 6, 7]), ([5, 8], [5, 8]), ([9, 5], [9]), ([10], [10]), ([10], [10]), ([11, 12, 10, 10], [10, 11, 12]), ([13, 10], [10, 13]), ([10, 14], [10, 14])])
def interchangelaw10_ParcelAdvicesMatchSpec.B3 : List Nat := [0, 1, 0, 7, 15, 31, 63, 63, 255, 511, 1023, 2047, 2047, 8191, 16383, 32767]
theorem interchangelaw10_ParcelAdvicesMatchSpec.tab3 : rtab .any (opsOf Tryz.f3 3) = interchangelaw10_ParcelAdvicesMatchSpec.T3 := by kernel_rfl
theorem interchangelaw10_ParcelAdvicesMatchSpec.bits3 : waitsOk interchangelaw10_ParcelAdvicesMatchSpec.T3.2 interchangelaw10_ParcelAdvicesMatchSpec.B3 = true := by kernel_rfl
set_option maxHeartbeats 8000000 in
set_option maxRecDepth 100000 in
theorem interchangelaw10_ParcelAdvicesMatchSpec.calls (k : Nat) (a0_0 : ByteArray) (a0_1 : ByteArray) (a0_2 : Int) (A0_3 : Option Addr) (c0_3 : Nat) (l0_3 : List (S42)) (a1 : ByteArray) (r : Bool) (w : World) (hr0_3 : Kd.C k42 w A0_3 l0_3.length l0_3) (hc0_3 : l0_3.length ≤ c0_3) (h : interchangelaw10_ParcelAdvicesMatchSpec.f k a0_0 a0_1 a0_2 l0_3 a1 = some r) :
  Calls Tryz.prog 3 #[.agg #[.string a0_0, .string a0_1, .int .i64 a0_2, .slice A0_3 l0_3.length c0_3], .string a1] w fun e w' => e = .returned (.bool r) ∧ Below w.heap.size w w' := by
 have hu24 := Tryz.underlying24
 have HR0_3 := Aside0.mk hr0_3
 have HC0_3 := Aside0.mk hc0_3
 clear hr0_3 hc0_3
 have HB := Aside0.mk (Below.refl w.heap.size w)
 have H := h
 unfold interchangelaw10_ParcelAdvicesMatchSpec.f at H
 clear h
 replace H := Option.bind_eq_some_iff.mp H
 obtain ⟨⟨t492, t495⟩, A30, H⟩ := H
 try dsimp only at H
 have A3 := Aside0.mk A30
 clear A30
 replace H := Option.bind_eq_some_iff.mp H
 obtain ⟨⟨t496, t499⟩, A40, H⟩ := H
 try dsimp only at H
 have A4 := Aside0.mk A40
 clear A40
 have HC5 := Aside0.mk H
 clear H
 go_enter Tryz.func3, Tryz.ntmps3
 go_upto_region 3 with (first | ((with_reducible refine gD 2 rfl ?_); refine bx w 2 #[.string a0_0, .string a0_1, .int .i64 a0_2, .slice A0_3 l0_3.length c0_3] 24 ?_; intro gb491 hg w6 hb BK491 GW491 GE491; clear HB; intro HB; clear hb hg; obtain ⟨hcz7_0, hcz7_1, hcz7_2, hcz7_3, hfz7_0, hfz7_1, hfz7_2, hfz7_3⟩ := cz4 BK491) | ((with_reducible refine gC 4 rfl ?_); refine gl_ 12 Tryz.func4 #[.agg #[.string a0_0, .string a0_1, .int .i64 a0_2, .slice A0_3 l0_3.length c0_3], .string a1] ?_; (with_reducible refine (interchangeref10_Within.calls k a0_0 a0_1 a0_2 _ _ l0_3 a1 t492 t495 _ (zc HR0_3) HC0_3.out A3.out).mono ?_); rintro e w8 ⟨v493, rfl, ho0, hb⟩; refine ⟨_, rfl, ?_⟩; have HO494 := Aside0.mk (Kd.R_lower ho0 (below_size (zb w))); replace BK491 := bb BK491 hb; replace HB := hs w hb; (try clear hb); (try clear ho0); obtain ⟨hcz9_0, hcz9_1, hcz9_2, hcz9_3, hfz9_0, hfz9_1, hfz9_2, hfz9_3⟩ := cz4 BK491) | ((with_reducible refine gC 5 rfl ?_); refine gl_ 18 Tryz.func5 #[.agg #[.string a0_0, .string a0_1, .int .i64 a0_2, .slice A0_3 l0_3.length c0_3], .string a1] ?_; (with_reducible refine (parcel_Within.calls k a0_0 a0_1 a0_2 _ _ l0_3 a1 t496 t499 _ (zc HR0_3) HC0_3.out A4.out).mono ?_); rintro e w10 ⟨v497, rfl, ho0, hb⟩; refine ⟨_, rfl, ?_⟩; have HO498 := Aside0.mk (Kd.R_lower (Kd.R_new' ho0 (Kd.R_lt (zo HO494))) (below_size (zb w))); replace HO494 := Aside0.mk (Kd.R_elder' (zo HO494) (Kd.R_base ho0) hb); replace BK491 := bb BK491 hb; replace HB := hs w hb; (try clear hb); (try clear ho0)))
 (try simp only [sq])
 go_cut [36] (fun v36 wc => ∃ (kq : Nat) (x36_4 : Bool), v36 = .bool x36_4 ∧ Aside0 (interchangelaw10_ParcelAdvicesMatchSpec.j0 kq a1 x36_4 a0_0 a0_1 a0_2 l0_3 = some r) ∧ Aside0 (kq ≤ k) ∧ Aside0 (wc.heap[gb491]? = some (.cells #[.string a0_0, .string a0_1, .int .i64 a0_2, (.slice A0_3 l0_3.length c0_3)] 24 (0, 0))) ∧ Aside0 (Below w.heap.size w wc))
 case first =>
  have H := HC5.out
  clear HC5
  replace H := Option.bind_eq_some_iff.mp H
  obtain ⟨t500, A110, H⟩ := H
  try dsimp only at H
  have A11 := Aside0.mk A110
  clear A110
  replace H := Option.bind_eq_some_iff.mp H
  obtain ⟨t501, A120, H⟩ := H
  try dsimp only at H
  have A12 := Aside0.mk A120
  clear A120
  by_cases c13 : t500 = t501
  ·rw [if_pos c13] at H
   have c13b0 : (t500 == t501) = true := beq_iff_eq.mpr c13
   have c13b1 : (t500 != t501) = false := bne_eq_false_iff_eq.mpr c13
   clear c13
   (first | rw [c13b0] | (simp only [i64_w, i32_w]; rw [c13b0]) | skip)
   by_cases c14 : t499 = t495
   ·rw [if_pos c14] at H
    have c14b0 : (t499 == t495) = true := beq_iff_eq.mpr c14
    have c14b1 : (t499 != t495) = false := bne_eq_false_iff_eq.mpr c14
    clear c14
    replace H := Option.bind_eq_some_iff.mp H
    obtain ⟨t502, A150, H⟩ := H
    try dsimp only at H
    have A15 := Aside0.mk A150
    clear A150
    have H' := Aside0.mk H
    clear H
    try go_wp2
    have n0_ := Aside0.mk (Kd.R_drew HO494.out)
    have n1_ := Aside0.mk (Kd.R_drew HO498.out)
    have n2_ := Aside0.mk (blk_drew BK491.out)
    have n3_ := Aside0.mk (below_drew1 HB.out)
    clear HO494
    clear HO498
    clear BK491
    clear HB
    have HO494 := n0_
    have HO498 := n1_
    have BK491 := n2_
    have HB := n3_
    clear n0_ n1_ n2_ n3_
    refine start_ (n := 16) (S := fun w' => w'.cell? ⟨gb491, 0, none⟩ = some (.string a0_0) ∧ w'.cell? ⟨gb491, 1, none⟩ = some (.string a0_1) ∧ w'.cell? ⟨gb491, 2, none⟩ = some (.int .i64 a0_2) ∧ w'.cell? ⟨gb491, 3, none⟩ = some (.slice A0_3 l0_3.length c0_3)) (ds := []) (bm 16 0) (by kernel_rfl) rfl rfl ⟨(blk_cell BK491.out 0).trans rfl, (blk_cell BK491.out 1).trans rfl, (blk_cell BK491.out 2).trans rfl, (blk_cell BK491.out 3).trans rfl⟩ (fun hHeld => ?_); refine with_tabW interchangelaw10_ParcelAdvicesMatchSpec.tab3 interchangelaw10_ParcelAdvicesMatchSpec.bits3 (fun HT_ HW_ => ?_)
    generalize w10.drew = w16 at HO494 HO498 BK491 HB hHeld ⊢
    refine ta4 0 21 (bm 16 1) HT_ HW_ hHeld ?_
    refine ta4 2 23 (bm 16 5) HT_ HW_ hHeld ?_
    refine one_ (i := 1) (N := some 22) (bm 16 7) rfl rfl (one_of HT_.out (by kernel_rfl)) (by decide) (fun K hK => ?_)
    refine gs Tryz.func6 #[.agg #[.string a0_0, .string a0_1, .int .i64 a0_2, .slice A0_3 l0_3.length c0_3]] ?_
    with_reducible refine (interchangeref10_CheckAdvice.calls k a0_0 a0_1 a0_2 _ _ l0_3 t500 _ (zc HR0_3) HC0_3.out A11.out).mono ?_
    rintro e w17 ⟨rfl, hb⟩
    refine ⟨_, rfl, ?_⟩
    have n0_ := rb HO494 hb
    have n1_ := rb HO498 hb
    have n2_ := bb BK491 hb
    have n3_ := hs w hb
    clear HO494
    clear HO498
    clear BK491
    clear HB
    have HO494 := n0_
    have HO498 := n1_
    have BK491 := n2_
    have HB := n3_
    clear n0_ n1_ n2_ n3_
    (try clear hb)
    (try clear hb2)
    (try clear hk)
    (try clear hi)
    refine hK.out _ _ ⟨(blk_cell BK491.out 0).trans rfl, (blk_cell BK491.out 1).trans rfl, (blk_cell BK491.out 2).trans rfl, (blk_cell BK491.out 3).trans rfl⟩ (fun hHeld => ?_)
    clear hK K
    refine norm_ (a' := ?_) ?_ ?_
    rotate_left
    ·show Act.put _ (some 22) _ = _
     simp only [sq, i64_w, i32_w]
     rfl
    refine one_ (i := 3) (N := some 24) (bm 16 15) rfl rfl (one_of HT_.out (by kernel_rfl)) (by decide) (fun K hK => ?_)
    refine gs Tryz.func7 #[.agg #[.string a0_0, .string a0_1, .int .i64 a0_2, .slice A0_3 l0_3.length c0_3]] ?_
    with_reducible refine (parcel_CheckAdvice.calls k a0_0 a0_1 a0_2 _ _ l0_3 t501 _ (zc HR0_3) HC0_3.out A12.out).mono ?_
    rintro e w18 ⟨rfl, hb⟩
    refine ⟨_, rfl, ?_⟩
    have n0_ := rb HO494 hb
    have n1_ := rb HO498 hb
    have n2_ := bb BK491 hb
    have n3_ := hs w hb
    clear HO494
    clear HO498
    clear BK491
    clear HB
    have HO494 := n0_
    have HO498 := n1_
    have BK491 := n2_
    have HB := n3_
    clear n0_ n1_ n2_ n3_
    (try clear hb)
    (try clear hb2)
    (try clear hk)
    (try clear hi)
    obtain ⟨Ao19, co19, eo19⟩ := Kd.R_slice HO498.out
    (first | subst eo19 | (injection eo19 with f1_ f2_ f3_; have f4_ := f1_.symm; have f5_ := f3_.symm; clear f1_ f2_ f3_; subst f4_; subst f5_))
    obtain ⟨Ao20, co20, eo20⟩ := Kd.R_slice HO494.out
    (first | subst eo20 | (injection eo20 with f1_ f2_ f3_; have f4_ := f1_.symm; have f5_ := f3_.symm; clear f1_ f2_ f3_; subst f4_; subst f5_))
    refine hK.out _ _ ⟨(blk_cell BK491.out 0).trans rfl, (blk_cell BK491.out 1).trans rfl, (blk_cell BK491.out 2).trans rfl, (blk_cell BK491.out 3).trans rfl⟩ (fun hHeld => ?_)
    clear hK K
    refine norm_ (a' := ?_) ?_ ?_
    rotate_left
    ·show Act.put _ (some 24) _ = _
     simp only [sq, i64_w, i32_w]
     rfl
    refine pu 4 25 (bm 16 31) HT_ ?_
    refine pu 5 26 (bm 16 63) HT_ ?_
    refine pu 6 27 (bm 16 127) HT_ ?_
    refine pu 7 28 (bm 16 255) HT_ ?_
    refine pu 8 29 (bm 16 511) HT_ ?_
    refine pu 9 30 (bm 16 1023) HT_ ?_
    refine pu 10 31 (bm 16 2047) HT_ ?_
    refine pu 11 32 (bm 16 4095) HT_ ?_
    refine pu 12 33 (bm 16 8191) HT_ ?_
    refine one_ (i := 13) (N := some 34) (bm 16 16383) rfl rfl (one_of HT_.out (by kernel_rfl)) (by decide) (fun K hK => ?_)
    refine gs Tryz.func8 #[.slice Ao19 t496.length co19, .slice Ao20 t492.length co20] ?_
    with_reducible refine (slices_Equal_string_string.calls k _ _ t496 _ _ t492 t502 _ ?side1 ?side2 ?side3 ?side4 A15.out).mono ?_
    (case side1 => repeat (first | exact (Kd.R_reads' HO498.out).2.2 | (with_reducible refine Kd.C_alloc ?_ _) | (with_reducible refine Kd.C_drewN ?_ _) | (with_reducible refine Kd.C_drew ?_)))
    (case side2 => exact (Kd.R_reads' HO498.out).2.1)
    (case side3 => repeat (first | exact (Kd.R_reads' HO494.out).2.2 | (with_reducible refine Kd.C_alloc ?_ _) | (with_reducible refine Kd.C_drewN ?_ _) | (with_reducible refine Kd.C_drew ?_)))
    (case side4 => exact (Kd.R_reads' HO494.out).2.1)
    rintro e w' ⟨rfl, ⟨nd, rfl⟩⟩
    refine ⟨_, rfl, ?_⟩
    refine hK.out _ _ ⟨(blk_cell BK491.out 0).trans rfl, (blk_cell BK491.out 1).trans rfl, (blk_cell BK491.out 2).trans rfl, (blk_cell BK491.out 3).trans rfl⟩ (fun hHeld => ?_)
    clear hK K
    refine norm_ (a' := ?_) ?_ ?_
    rotate_left
    ·show Act.put _ (some 34) _ = _
     simp only [sq, i64_w, i32_w]
     rfl
    refine pu 14 35 (bm 16 32767) HT_ ?_
    refine pu 15 36 (bm 16 65535) HT_ ?_
    refine done_ (done_of HT_.out (by kernel_rfl)) ?_
    try go_wp2
    go_meet
    case rel => exact ⟨_, (!t502), ar, H', ⟨by first | omega | exact Nat.le_refl _⟩, ⟨(zk BK491)⟩, ⟨(zb w)⟩⟩
   ·rw [if_neg c14] at H
    have c14b0 : (t499 == t495) = false := beq_eq_false_iff_ne.mpr c14
    have c14b1 : (t499 != t495) = true := bne_iff_ne.mpr c14
    have H' := Aside0.mk H
    clear H
    try go_wp2
    have n0_ := Aside0.mk (Kd.R_drew HO494.out)
    have n1_ := Aside0.mk (Kd.R_drew HO498.out)
    have n2_ := Aside0.mk (blk_drew BK491.out)
    have n3_ := Aside0.mk (below_drew1 HB.out)
    clear HO494
    clear HO498
    clear BK491
    clear HB
    have HO494 := n0_
    have HO498 := n1_
    have BK491 := n2_
    have HB := n3_
    clear n0_ n1_ n2_ n3_
    refine start_ (n := 16) (S := fun w' => w'.cell? ⟨gb491, 0, none⟩ = some (.string a0_0) ∧ w'.cell? ⟨gb491, 1, none⟩ = some (.string a0_1) ∧ w'.cell? ⟨gb491, 2, none⟩ = some (.int .i64 a0_2) ∧ w'.cell? ⟨gb491, 3, none⟩ = some (.slice A0_3 l0_3.length c0_3)) (ds := []) (bm 16 0) (by kernel_rfl) rfl rfl ⟨(blk_cell BK491.out 0).trans rfl, (blk_cell BK491.out 1).trans rfl, (blk_cell BK491.out 2).trans rfl, (blk_cell BK491.out 3).trans rfl⟩ (fun hHeld => ?_); refine with_tabW interchangelaw10_ParcelAdvicesMatchSpec.tab3 interchangelaw10_ParcelAdvicesMatchSpec.bits3 (fun HT_ HW_ => ?_)
    generalize w10.drew = w21 at HO494 HO498 BK491 HB hHeld ⊢
    refine ta4 0 21 (bm 16 1) HT_ HW_ hHeld ?_
    refine ta4 2 23 (bm 16 5) HT_ HW_ hHeld ?_
    refine one_ (i := 1) (N := some 22) (bm 16 7) rfl rfl (one_of HT_.out (by kernel_rfl)) (by decide) (fun K hK => ?_)
    refine gs Tryz.func6 #[.agg #[.string a0_0, .string a0_1, .int .i64 a0_2, .slice A0_3 l0_3.length c0_3]] ?_
    with_reducible refine (interchangeref10_CheckAdvice.calls k a0_0 a0_1 a0_2 _ _ l0_3 t500 _ (zc HR0_3) HC0_3.out A11.out).mono ?_
    rintro e w22 ⟨rfl, hb⟩
    refine ⟨_, rfl, ?_⟩
    have n0_ := rb HO494 hb
    have n1_ := rb HO498 hb
    have n2_ := bb BK491 hb
    have n3_ := hs w hb
    clear HO494
    clear HO498
    clear BK491
    clear HB
    have HO494 := n0_
    have HO498 := n1_
    have BK491 := n2_
    have HB := n3_
    clear n0_ n1_ n2_ n3_
    (try clear hb)
    (try clear hb2)
    (try clear hk)
    (try clear hi)
    refine hK.out _ _ ⟨(blk_cell BK491.out 0).trans rfl, (blk_cell BK491.out 1).trans rfl, (blk_cell BK491.out 2).trans rfl, (blk_cell BK491.out 3).trans rfl⟩ (fun hHeld => ?_)
    clear hK K
    refine norm_ (a' := ?_) ?_ ?_
    rotate_left
    ·show Act.put _ (some 22) _ = _
     simp only [sq, i64_w, i32_w]
     rfl
    refine one_ (i := 3) (N := some 24) (bm 16 15) rfl rfl (one_of HT_.out (by kernel_rfl)) (by decide) (fun K hK => ?_)
    refine gs Tryz.func7 #[.agg #[.string a0_0, .string a0_1, .int .i64 a0_2, .slice A0_3 l0_3.length c0_3]] ?_
    with_reducible refine (parcel_CheckAdvice.calls k a0_0 a0_1 a0_2 _ _ l0_3 t501 _ (zc HR0_3) HC0_3.out A12.out).mono ?_
    rintro e w23 ⟨rfl, hb⟩
    refine ⟨_, rfl, ?_⟩
    have n0_ := rb HO494 hb
    have n1_ := rb HO498 hb
    have n2_ := bb BK491 hb
    have n3_ := hs w hb
    clear HO494
    clear HO498
    clear BK491
    clear HB
    have HO494 := n0_
    have HO498 := n1_
    have BK491 := n2_
    have HB := n3_
    clear n0_ n1_ n2_ n3_
    (try clear hb)
    (try clear hb2)
    (try clear hk)
    (try clear hi)
    refine hK.out _ _ ⟨(blk_cell BK491.out 0).trans rfl, (blk_cell BK491.out 1).trans rfl, (blk_cell BK491.out 2).trans rfl, (blk_cell BK491.out 3).trans rfl⟩ (fun hHeld => ?_)
    clear hK K
    refine norm_ (a' := ?_) ?_ ?_
    rotate_left
    ·show Act.put _ (some 24) _ = _
     simp only [sq, i64_w, i32_w]
     rfl
    refine pu 4 25 (bm 16 31) HT_ ?_
    refine pu 5 26 (bm 16 63) HT_ ?_
    refine pu 6 27 (bm 16 127) HT_ ?_
    refine pu 7 28 (bm 16 255) HT_ ?_
    refine pu 8 29 (bm 16 511) HT_ ?_
    refine pu 9 30 (bm 16 1023) HT_ ?_
    refine pu 10 31 (bm 16 2047) HT_ ?_
    refine pn 11 32 (bm 16 4095) HT_ ?_
    refine pn 12 33 (bm 16 8191) HT_ ?_
    refine pn 13 34 (bm 16 16383) HT_ ?_
    refine pn 14 35 (bm 16 32767) HT_ ?_
    refine pu 15 36 (bm 16 65535) HT_ ?_
    refine done_ (done_of HT_.out (by kernel_rfl)) ?_
    try go_wp2
    go_meet
    case rel => exact ⟨_, (true), ar, H', ⟨by first | omega | exact Nat.le_refl _⟩, ⟨(zk BK491)⟩, ⟨(zb w)⟩⟩
  ·rw [if_neg c13] at H
   have c13b0 : (t500 == t501) = false := beq_eq_false_iff_ne.mpr c13
   have c13b1 : (t500 != t501) = true := bne_iff_ne.mpr c13
   (first | rw [c13b0] | (simp only [i64_w, i32_w]; rw [c13b0]) | skip)
   have H' := Aside0.mk H
   clear H
   try go_wp2
   have n0_ := Aside0.mk (Kd.R_drew HO494.out)
   have n1_ := Aside0.mk (Kd.R_drew HO498.out)
   have n2_ := Aside0.mk (blk_drew BK491.out)
   have n3_ := Aside0.mk (below_drew1 HB.out)
   clear HO494
   clear HO498
   clear BK491
   clear HB
   have HO494 := n0_
   have HO498 := n1_
   have BK491 := n2_
   have HB := n3_
   clear n0_ n1_ n2_ n3_
   refine start_ (n := 16) (S := fun w' => w'.cell? ⟨gb491, 0, none⟩ = some (.string a0_0) ∧ w'.cell? ⟨gb491, 1, none⟩ = some (.string a0_1) ∧ w'.cell? ⟨gb491, 2, none⟩ = some (.int .i64 a0_2) ∧ w'.cell? ⟨gb491, 3, none⟩ = some (.slice A0_3 l0_3.length c0_3)) (ds := []) (bm 16 0) (by kernel_rfl) rfl rfl ⟨(blk_cell BK491.out 0).trans rfl, (blk_cell BK491.out 1).trans rfl, (blk_cell BK491.out 2).trans rfl, (blk_cell BK491.out 3).trans rfl⟩ (fun hHeld => ?_); refine with_tabW interchangelaw10_ParcelAdvicesMatchSpec.tab3 interchangelaw10_ParcelAdvicesMatchSpec.bits3 (fun HT_ HW_ => ?_)
   generalize w10.drew = w24 at HO494 HO498 BK491 HB hHeld ⊢
   refine ta4 0 21 (bm 16 1) HT_ HW_ hHeld ?_
   refine ta4 2 23 (bm 16 5) HT_ HW_ hHeld ?_
   refine one_ (i := 1) (N := some 22) (bm 16 7) rfl rfl (one_of HT_.out (by kernel_rfl)) (by decide) (fun K hK => ?_)
   refine gs Tryz.func6 #[.agg #[.string a0_0, .string a0_1, .int .i64 a0_2, .slice A0_3 l0_3.length c0_3]] ?_
   with_reducible refine (interchangeref10_CheckAdvice.calls k a0_0 a0_1 a0_2 _ _ l0_3 t500 _ (zc HR0_3) HC0_3.out A11.out).mono ?_
   rintro e w25 ⟨rfl, hb⟩
   refine ⟨_, rfl, ?_⟩
   have n0_ := rb HO494 hb
   have n1_ := rb HO498 hb
   have n2_ := bb BK491 hb
   have n3_ := hs w hb
   clear HO494
   clear HO498
   clear BK491
   clear HB
   have HO494 := n0_
   have HO498 := n1_
   have BK491 := n2_
   have HB := n3_
   clear n0_ n1_ n2_ n3_
   (try clear hb)
   (try clear hb2)
   (try clear hk)
   (try clear hi)
   refine hK.out _ _ ⟨(blk_cell BK491.out 0).trans rfl, (blk_cell BK491.out 1).trans rfl, (blk_cell BK491.out 2).trans rfl, (blk_cell BK491.out 3).trans rfl⟩ (fun hHeld => ?_)
   clear hK K
   refine norm_ (a' := ?_) ?_ ?_
   rotate_left
   ·show Act.put _ (some 22) _ = _
    simp only [sq, i64_w, i32_w]
    rfl
   refine one_ (i := 3) (N := some 24) (bm 16 15) rfl rfl (one_of HT_.out (by kernel_rfl)) (by decide) (fun K hK => ?_)
   refine gs Tryz.func7 #[.agg #[.string a0_0, .string a0_1, .int .i64 a0_2, .slice A0_3 l0_3.length c0_3]] ?_
   with_reducible refine (parcel_CheckAdvice.calls k a0_0 a0_1 a0_2 _ _ l0_3 t501 _ (zc HR0_3) HC0_3.out A12.out).mono ?_
   rintro e w26 ⟨rfl, hb⟩
   refine ⟨_, rfl, ?_⟩
   have n0_ := rb HO494 hb
   have n1_ := rb HO498 hb
   have n2_ := bb BK491 hb
   have n3_ := hs w hb
   clear HO494
   clear HO498
   clear BK491
   clear HB
   have HO494 := n0_
   have HO498 := n1_
   have BK491 := n2_
   have HB := n3_
   clear n0_ n1_ n2_ n3_
   (try clear hb)
   (try clear hb2)
   (try clear hk)
   (try clear hi)
   refine hK.out _ _ ⟨(blk_cell BK491.out 0).trans rfl, (blk_cell BK491.out 1).trans rfl, (blk_cell BK491.out 2).trans rfl, (blk_cell BK491.out 3).trans rfl⟩ (fun hHeld => ?_)
   clear hK K
   refine norm_ (a' := ?_) ?_ ?_
   rotate_left
   ·show Act.put _ (some 24) _ = _
    simp only [sq, i64_w, i32_w]
    rfl
   refine pu 4 25 (bm 16 31) HT_ ?_
   refine pu 5 26 (bm 16 63) HT_ ?_
   refine pn 6 27 (bm 16 127) HT_ ?_
   refine pn 7 28 (bm 16 255) HT_ ?_
   refine pn 8 29 (bm 16 511) HT_ ?_
   refine pu 9 30 (bm 16 1023) HT_ ?_
   refine pu 10 31 (bm 16 2047) HT_ ?_
   refine pn 11 32 (bm 16 4095) HT_ ?_
   refine pn 12 33 (bm 16 8191) HT_ ?_
   refine pn 13 34 (bm 16 16383) HT_ ?_
   refine pn 14 35 (bm 16 32767) HT_ ?_
   refine pu 15 36 (bm 16 65535) HT_ ?_
   refine done_ (done_of HT_.out (by kernel_rfl)) ?_
   try go_wp2
   go_meet
   case rel => exact ⟨_, (true), ar, H', ⟨by first | omega | exact Nat.le_refl _⟩, ⟨(zk BK491)⟩, ⟨(zb w)⟩⟩
 case rest =>
  clear HC5
  try clear c1
  try clear p2
  try clear c3
  try clear c4
  try clear c5
  try clear c6
  try clear c7
  try clear c8
  try clear c13
  try clear c13b0
  try clear c13b1
  try clear c14
  try clear c14b0
  try clear c14b1
  try clear hcz7_0 hcz7_1 hcz7_2 hcz7_3
  try clear hcz9_0 hcz9_1 hcz9_2 hcz9_3
  try clear hfz7_0 hfz7_1 hfz7_2 hfz7_3
  try clear hfz9_0 hfz9_1 hfz9_2 hfz9_3
  obtain ⟨kq, x36_4, rfl, HA, HJ4, BK491, HB⟩ := hcut
  cases kq with
  | zero => exact absurd HA.out (by simp [interchangelaw10_ParcelAdvicesMatchSpec.j0])
  | succ kj4 =>
   have H := HA.out
   clear HA
   simp only [interchangelaw10_ParcelAdvicesMatchSpec.j0] at H
   by_cases c27 : x36_4 = true
   ·subst c27
    have H1 : (some false) = some r := by rw [if_pos rfl] at H; exact H
    clear H
    have H := H1
    clear H1
    obtain rfl := Option.some.inj H
    go_wp2
    go_ret
    exact ⟨by first | rfl | (simp [errW_none, errW_some] <;> rfl) | (simp [*, errW_none, errW_some] <;> rfl), (zb w)⟩
   ·replace c27 := Bool.eq_false_iff.mpr c27
    subst c27
    have H1 : ((interchangeref10_Path.f kj4 a0_0 a0_1 a0_2 l0_3 a1).bind fun bt503 => ((parcel_Path.f kj4 a0_0 a0_1 a0_2 l0_3 a1).bind fun bt507 => (if bt507.2 = bt503.2 then ((slices_Equal_string_string.f kj4 bt507.1 bt503.1).bind fun t511 => (if t511 = true then ((interchangelaw10_awake.f kj4).bind fun t512 => (some t512)) else (some false))) else (some false)))) = some r := by rw [if_neg (show ¬ (false = true) by decide)] at H; exact H
    clear H
    have H := H1
    clear H1
    replace H := Option.bind_eq_some_iff.mp H
    obtain ⟨⟨t503, t506⟩, A280, H⟩ := H
    try dsimp only at H
    have A28 := Aside0.mk A280
    clear A280
    replace H := Option.bind_eq_some_iff.mp H
    obtain ⟨⟨t507, t510⟩, A290, H⟩ := H
    try dsimp only at H
    have A29 := Aside0.mk A290
    clear A290
    by_cases c30 : t510 = t506
    ·rw [if_pos c30] at H
     have c30b0 : (t510 == t506) = true := beq_iff_eq.mpr c30
     have c30b1 : (t510 != t506) = false := bne_eq_false_iff_eq.mpr c30
     clear c30
     replace H := Option.bind_eq_some_iff.mp H
     obtain ⟨t511, A310, H⟩ := H
     try dsimp only at H
     have A31 := Aside0.mk A310
     clear A310
     by_cases c32 : t511 = true
     ·subst c32
      have H1 : ((interchangelaw10_awake.f kj4).bind fun t512 => (some t512)) = some r := by rw [if_pos rfl] at H; exact H
      clear H
      have H := H1
      clear H1
      replace H := Option.bind_eq_some_iff.mp H
      obtain ⟨t512, A330, H⟩ := H
      try dsimp only at H
      have A33 := Aside0.mk A330
      clear A330
      obtain rfl := Option.some.inj H
      obtain ⟨hcz34_0, hcz34_1, hcz34_2, hcz34_3, hfz34_0, hfz34_1, hfz34_2, hfz34_3⟩ := cz4 BK491
      go_wp2_with (first | ((with_reducible refine gC 9 rfl ?_); refine gl_ 40 Tryz.func9 #[.agg #[.string a0_0, .string a0_1, .int .i64 a0_2, .slice A0_3 l0_3.length c0_3], .string a1] ?_; (with_reducible refine (interchangeref10_Path.calls kj4 a0_0 a0_1 a0_2 _ _ l0_3 a1 t503 t506 _ (zc HR0_3) HC0_3.out A28.out).mono ?_); rintro e w35 ⟨v504, rfl, ho0, hb⟩; refine ⟨_, rfl, ?_⟩; have HO505 := Aside0.mk (Kd.R_lower ho0 (below_size (zb w))); replace BK491 := bb BK491 hb; replace HB := hs w hb; (try clear hb); (try clear ho0); obtain ⟨hcz36_0, hcz36_1, hcz36_2, hcz36_3, hfz36_0, hfz36_1, hfz36_2, hfz36_3⟩ := cz4 BK491) | ((with_reducible refine gC 10 rfl ?_); refine gl_ 46 Tryz.func10 #[.agg #[.string a0_0, .string a0_1, .int .i64 a0_2, .slice A0_3 l0_3.length c0_3], .string a1] ?_; (with_reducible refine (parcel_Path.calls kj4 a0_0 a0_1 a0_2 _ _ l0_3 a1 t507 t510 _ (zc HR0_3) HC0_3.out A29.out).mono ?_); rintro e w37 ⟨v508, rfl, ho0, hb⟩; refine ⟨_, rfl, ?_⟩; have HO509 := Aside0.mk (Kd.R_lower (Kd.R_new' ho0 (Kd.R_lt (zo HO505))) (below_size (zb w))); replace HO505 := Aside0.mk (Kd.R_elder' (zo HO505) (Kd.R_base ho0) hb); replace BK491 := bb BK491 hb; replace HB := hs w hb; (try clear hb); (try clear ho0); obtain ⟨Ao38, co38, eo38⟩ := Kd.R_slice HO509.out; subst eo38; obtain ⟨Ao39, co39, eo39⟩ := Kd.R_slice HO505.out; subst eo39) | (go_at_call 8; (with_reducible refine (slices_Equal_string_string.calls kj4 _ _ t507 _ _ t503 true _ ?side1 ?side2 ?side3 ?side4 A31.out).mono ?_); (case side1 => repeat (first | exact (Kd.R_reads' HO509.out).2.2 | (with_reducible refine Kd.C_alloc ?_ _) | (with_reducible refine Kd.C_drewN ?_ _) | (with_reducible refine Kd.C_drew ?_))); (case side2 => exact (Kd.R_reads' HO509.out).2.1); (case side3 => repeat (first | exact (Kd.R_reads' HO505.out).2.2 | (with_reducible refine Kd.C_alloc ?_ _) | (with_reducible refine Kd.C_drewN ?_ _) | (with_reducible refine Kd.C_drew ?_))); (case side4 => exact (Kd.R_reads' HO505.out).2.1); rintro e w' ⟨rfl, ⟨nd, rfl⟩⟩) | (go_at_call 11; (with_reducible refine (interchangelaw10_awake.calls kj4  t512 _ A33.out).mono ?_); rintro e w40 ⟨rfl, hb⟩; replace HO505 := rb HO505 hb; replace HO509 := rb HO509 hb; replace BK491 := bb BK491 hb; replace HB := hs w hb; (try clear hb)))
      go_ret
      exact ⟨by first | rfl | (simp [errW_none, errW_some] <;> rfl) | (simp [*, errW_none, errW_some] <;> rfl), (zb w)⟩
     ·replace c32 := Bool.eq_false_iff.mpr c32
      subst c32
      have H1 : (some false) = some r := by rw [if_neg (show ¬ (false = true) by decide)] at H; exact H
      clear H
      have H := H1
      clear H1
      obtain rfl := Option.some.inj H
      obtain ⟨hcz41_0, hcz41_1, hcz41_2, hcz41_3, hfz41_0, hfz41_1, hfz41_2, hfz41_3⟩ := cz4 BK491
      go_wp2_with (first | ((with_reducible refine gC 9 rfl ?_); refine gl_ 40 Tryz.func9 #[.agg #[.string a0_0, .string a0_1, .int .i64 a0_2, .slice A0_3 l0_3.length c0_3], .string a1] ?_; (with_reducible refine (interchangeref10_Path.calls kj4 a0_0 a0_1 a0_2 _ _ l0_3 a1 t503 t506 _ (zc HR0_3) HC0_3.out A28.out).mono ?_); rintro e w42 ⟨v504, rfl, ho0, hb⟩; refine ⟨_, rfl, ?_⟩; have HO505 := Aside0.mk (Kd.R_lower ho0 (below_size (zb w))); replace BK491 := bb BK491 hb; replace HB := hs w hb; (try clear hb); (try clear ho0); obtain ⟨hcz43_0, hcz43_1, hcz43_2, hcz43_3, hfz43_0, hfz43_1, hfz43_2, hfz43_3⟩ := cz4 BK491) | ((with_reducible refine gC 10 rfl ?_); refine gl_ 46 Tryz.func10 #[.agg #[.string a0_0, .string a0_1, .int .i64 a0_2, .slice A0_3 l0_3.length c0_3], .string a1] ?_; (with_reducible refine (parcel_Path.calls kj4 a0_0 a0_1 a0_2 _ _ l0_3 a1 t507 t510 _ (zc HR0_3) HC0_3.out A29.out).mono ?_); rintro e w44 ⟨v508, rfl, ho0, hb⟩; refine ⟨_, rfl, ?_⟩; have HO509 := Aside0.mk (Kd.R_lower (Kd.R_new' ho0 (Kd.R_lt (zo HO505))) (below_size (zb w))); replace HO505 := Aside0.mk (Kd.R_elder' (zo HO505) (Kd.R_base ho0) hb); replace BK491 := bb BK491 hb; replace HB := hs w hb; (try clear hb); (try clear ho0); obtain ⟨Ao45, co45, eo45⟩ := Kd.R_slice HO509.out; subst eo45; obtain ⟨Ao46, co46, eo46⟩ := Kd.R_slice HO505.out; subst eo46) | (go_at_call 8; (with_reducible refine (slices_Equal_string_string.calls kj4 _ _ t507 _ _ t503 false _ ?side1 ?side2 ?side3 ?side4 A31.out).mono ?_); (case side1 => repeat (first | exact (Kd.R_reads' HO509.out).2.2 | (with_reducible refine Kd.C_alloc ?_ _) | (with_reducible refine Kd.C_drewN ?_ _) | (with_reducible refine Kd.C_drew ?_))); (case side2 => exact (Kd.R_reads' HO509.out).2.1); (case side3 => repeat (first | exact (Kd.R_reads' HO505.out).2.2 | (with_reducible refine Kd.C_alloc ?_ _) | (with_reducible refine Kd.C_drewN ?_ _) | (with_reducible refine Kd.C_drew ?_))); (case side4 => exact (Kd.R_reads' HO505.out).2.1); rintro e w' ⟨rfl, ⟨nd, rfl⟩⟩))
      go_ret
      exact ⟨by first | rfl | (simp [errW_none, errW_some] <;> rfl) | (simp [*, errW_none, errW_some] <;> rfl), (zb w)⟩
    ·rw [if_neg c30] at H
     have c30b0 : (t510 == t506) = false := beq_eq_false_iff_ne.mpr c30
     have c30b1 : (t510 != t506) = true := bne_iff_ne.mpr c30
     obtain rfl := Option.some.inj H
     obtain ⟨hcz47_0, hcz47_1, hcz47_2, hcz47_3, hfz47_0, hfz47_1, hfz47_2, hfz47_3⟩ := cz4 BK491
     go_wp2_with (first | ((with_reducible refine gC 9 rfl ?_); refine gl_ 40 Tryz.func9 #[.agg #[.string a0_0, .string a0_1, .int .i64 a0_2, .slice A0_3 l0_3.length c0_3], .string a1] ?_; (with_reducible refine (interchangeref10_Path.calls kj4 a0_0 a0_1 a0_2 _ _ l0_3 a1 t503 t506 _ (zc HR0_3) HC0_3.out A28.out).mono ?_); rintro e w48 ⟨v504, rfl, ho0, hb⟩; refine ⟨_, rfl, ?_⟩; have HO505 := Aside0.mk (Kd.R_lower ho0 (below_size (zb w))); replace BK491 := bb BK491 hb; replace HB := hs w hb; (try clear hb); (try clear ho0); obtain ⟨hcz49_0, hcz49_1, hcz49_2, hcz49_3, hfz49_0, hfz49_1, hfz49_2, hfz49_3⟩ := cz4 BK491) | ((with_reducible refine gC 10 rfl ?_); refine gl_ 46 Tryz.func10 #[.agg #[.string a0_0, .string a0_1, .int .i64 a0_2, .slice A0_3 l0_3.length c0_3], .string a1] ?_; (with_reducible refine (parcel_Path.calls kj4 a0_0 a0_1 a0_2 _ _ l0_3 a1 t507 t510 _ (zc HR0_3) HC0_3.out A29.out).mono ?_); rintro e w50 ⟨v508, rfl, ho0, hb⟩; refine ⟨_, rfl, ?_⟩; have HO509 := Aside0.mk (Kd.R_lower (Kd.R_new' ho0 (Kd.R_lt (zo HO505))) (below_size (zb w))); replace HO505 := Aside0.mk (Kd.R_elder' (zo HO505) (Kd.R_base ho0) hb); replace BK491 := bb BK491 hb; replace HB := hs w hb; (try clear hb); (try clear ho0)))
     go_ret
     exact ⟨by first | rfl | (simp [errW_none, errW_some] <;> rfl) | (simp [*, errW_none, errW_some] <;> rfl), (zb w)⟩

end Go.Proofs.YthgefhnolmloiaaGreatDoor.P3
