-- Made by a program of this session out of the translation (wip/pp.py): functions, contracts.
import Derived.Test.YthgefhnolmloiaaGreatDoorP3x0
import Derived.Test.YthgefhnolmloiaaGreatDoorP3x12
import Derived.Test.YthgefhnolmloiaaGreatDoorP3x13
import Derived.Test.YthgefhnolmloiaaGreatDoorP3x14
namespace Go.Proofs.YthgefhnolmloiaaGreatDoor.P3
open Go.RowKit Go.Proofs.YthgefhnolmloiaaGreatDoorW.PrintWords Go.Proofs.YthgefhnolmloiaaGreatDoorW.PrintLast Go.Proofs.YthgefhnolmloiaaGreatDoorW.PrintMore
attribute [local go_sem] max2_int min2_int max_two min_two max_three min_three max_four min_four   -- for this text's walks alone
set_option linter.unusedVariables false
set_option linter.unusedSimpArgs false

/-! ### parcel_contentsFault: function 47 -/
mutual
def parcel_contentsFault.l0 : Nat → List (S66) → List (S66) → Int → Int → Option (Int)
 | 0, _, _, _, _ => none
 | k + 1, x0, x9, x10, x11 => if x11 < x10 then (if 0 ≤ x11 then (if x11 < (x9.length : Int) then ((kit_IsName.f ((rd_T66 x9 x11).f0)).bind fun t373 => (if t373 = true then ((kit_IsName.f ((rd_T66 x9 x11).f1)).bind fun t374 => (if t374 = true then (if ((rd_T66 x9 x11).f2).toList = ([] : List UInt8) then (parcel_contentsFault.j1 k x0 x11 x9 x10 x11 false ((rd_T66 x9 x11).f0) ((rd_T66 x9 x11).f1) ((rd_T66 x9 x11).f2) ((rd_T66 x9 x11).f3.f0) ((rd_T66 x9 x11).f3.f1)) else ((kit_IsName.f ((rd_T66 x9 x11).f2)).bind fun t375 => (parcel_contentsFault.j1 k x0 x11 x9 x10 x11 (!t375) ((rd_T66 x9 x11).f0) ((rd_T66 x9 x11).f1) ((rd_T66 x9 x11).f2) ((rd_T66 x9 x11).f3.f0) ((rd_T66 x9 x11).f3.f1)))) else (parcel_contentsFault.j1 k x0 x11 x9 x10 x11 true ((rd_T66 x9 x11).f0) ((rd_T66 x9 x11).f1) ((rd_T66 x9 x11).f2) ((rd_T66 x9 x11).f3.f0) ((rd_T66 x9 x11).f3.f1)))) else (parcel_contentsFault.j1 k x0 x11 x9 x10 x11 true ((rd_T66 x9 x11).f0) ((rd_T66 x9 x11).f1) ((rd_T66 x9 x11).f2) ((rd_T66 x9 x11).f3.f0) ((rd_T66 x9 x11).f3.f1)))) else (none)) else (none)) else (some 0)
def parcel_contentsFault.j1 : Nat → List (S66) → Int → List (S66) → Int → Int → Bool → ByteArray → ByteArray → ByteArray → Int → Int → Option (Int)
 | 0, _, _, _, _, _, _, _, _, _, _, _ => none
 | k + 1, x0, x3, x9, x10, x11, x36, x373000, x373001, x373002, x373003, x373004 => if x36 = true then (some 5) else (if x3 > 0 then (if 0 ≤ (wrap64 (x3 - 1)) then (if (wrap64 (x3 - 1)) < (x0.length : Int) then ((parcel_compareContents.f k ((rd_T66 x0 (wrap64 (x3 - 1))).f0) ((rd_T66 x0 (wrap64 (x3 - 1))).f1) ((rd_T66 x0 (wrap64 (x3 - 1))).f2) ((rd_T66 x0 (wrap64 (x3 - 1))).f3.f0) ((rd_T66 x0 (wrap64 (x3 - 1))).f3.f1) x373000 x373001 x373002 x373003 x373004).bind fun t377 => (parcel_contentsFault.j2 k x0 x9 x10 x11 (decide (t377 ≥ 0)) x373000 x373001 x373002 x373003 x373004)) else (none)) else (none)) else (parcel_contentsFault.j2 k x0 x9 x10 x11 false x373000 x373001 x373002 x373003 x373004))
def parcel_contentsFault.j2 : Nat → List (S66) → List (S66) → Int → Int → Bool → ByteArray → ByteArray → ByteArray → Int → Int → Option (Int)
 | 0, _, _, _, _, _, _, _, _, _, _ => none
 | k + 1, x0, x9, x10, x11, x48, x373000, x373001, x373002, x373003, x373004 => if x48 = true then (some 8) else ((order_QuantityFault.f k x373003 x373004 false).bind fun t378 => (if t378 = 0 then (parcel_contentsFault.l0 k x0 x9 x10 (wrap64 (x11 + 1))) else (some t378)))
end
def parcel_contentsFault.f (k : Nat) (l0 : List (S66)) : Option (Int) := if (l0.length : Int) > 100 then (some 2) else (parcel_contentsFault.l0 k l0 l0 (l0.length : Int) 0)
theorem parcel_contentsFault.mono_l : ∀ k, (∀ y0 y1 y2 y3, LeO (parcel_contentsFault.l0 k y0 y1 y2 y3) (parcel_contentsFault.l0 (k + 1) y0 y1 y2 y3)) ∧ (∀ y0 y1 y2 y3 y4 y5 y6 y7 y8 y9 y10, LeO (parcel_contentsFault.j1 k y0 y1 y2 y3 y4 y5 y6 y7 y8 y9 y10) (parcel_contentsFault.j1 (k + 1) y0 y1 y2 y3 y4 y5 y6 y7 y8 y9 y10)) ∧ (∀ y0 y1 y2 y3 y4 y5 y6 y7 y8 y9, LeO (parcel_contentsFault.j2 k y0 y1 y2 y3 y4 y5 y6 y7 y8 y9) (parcel_contentsFault.j2 (k + 1) y0 y1 y2 y3 y4 y5 y6 y7 y8 y9))
 | 0 => ⟨fun _ _ _ _ r h => by simp [parcel_contentsFault.l0] at h, fun _ _ _ _ _ _ _ _ _ _ _ r h => by simp [parcel_contentsFault.j1] at h, fun _ _ _ _ _ _ _ _ _ _ r h => by simp [parcel_contentsFault.j2] at h⟩
 | k + 1 => by
  obtain ⟨ih0, ih1, ih2⟩ := parcel_contentsFault.mono_l k
  refine ⟨?_, ?_, ?_⟩
  ·intro y0 y1 y2 y3
   unfold parcel_contentsFault.l0
   repeat' first | with_reducible first | exact ih0 _ _ _ _ | exact ih1 _ _ _ _ _ _ _ _ _ _ _ | exact ih2 _ _ _ _ _ _ _ _ _ _ | exact order_QuantityFault.mono _ _ _ _ | exact parcel_compareContents.mono _ _ _ _ _ _ _ _ _ _ _ | exact lr _ | exact ln _ | refine li ?_ ?_ | refine lb ?_ fun _ => ?_ | exact ih0 _ _ _ _ | exact ih1 _ _ _ _ _ _ _ _ _ _ _ | exact ih2 _ _ _ _ _ _ _ _ _ _ | exact order_QuantityFault.mono _ _ _ _ | exact parcel_compareContents.mono _ _ _ _ _ _ _ _ _ _ _ | exact ln _ | refine li ?_ ?_ | refine lb ?_ fun _ => ?_
  ·intro y0 y1 y2 y3 y4 y5 y6 y7 y8 y9 y10
   unfold parcel_contentsFault.j1
   repeat' first | with_reducible first | exact ih0 _ _ _ _ | exact ih1 _ _ _ _ _ _ _ _ _ _ _ | exact ih2 _ _ _ _ _ _ _ _ _ _ | exact order_QuantityFault.mono _ _ _ _ | exact parcel_compareContents.mono _ _ _ _ _ _ _ _ _ _ _ | exact lr _ | exact ln _ | refine li ?_ ?_ | refine lb ?_ fun _ => ?_ | exact ih0 _ _ _ _ | exact ih1 _ _ _ _ _ _ _ _ _ _ _ | exact ih2 _ _ _ _ _ _ _ _ _ _ | exact order_QuantityFault.mono _ _ _ _ | exact parcel_compareContents.mono _ _ _ _ _ _ _ _ _ _ _ | exact ln _ | refine li ?_ ?_ | refine lb ?_ fun _ => ?_
  ·intro y0 y1 y2 y3 y4 y5 y6 y7 y8 y9
   unfold parcel_contentsFault.j2
   repeat' first | with_reducible first | exact ih0 _ _ _ _ | exact ih1 _ _ _ _ _ _ _ _ _ _ _ | exact ih2 _ _ _ _ _ _ _ _ _ _ | exact order_QuantityFault.mono _ _ _ _ | exact parcel_compareContents.mono _ _ _ _ _ _ _ _ _ _ _ | exact lr _ | exact ln _ | refine li ?_ ?_ | refine lb ?_ fun _ => ?_ | exact ih0 _ _ _ _ | exact ih1 _ _ _ _ _ _ _ _ _ _ _ | exact ih2 _ _ _ _ _ _ _ _ _ _ | exact order_QuantityFault.mono _ _ _ _ | exact parcel_compareContents.mono _ _ _ _ _ _ _ _ _ _ _ | exact ln _ | refine li ?_ ?_ | refine lb ?_ fun _ => ?_
theorem parcel_contentsFault.mono : ∀ a0 k, LeO (parcel_contentsFault.f k a0) (parcel_contentsFault.f (k + 1) a0) := by
 intro a0 k
 obtain ⟨ih0, ih1, ih2⟩ := parcel_contentsFault.mono_l k
 unfold parcel_contentsFault.f
 repeat' first | with_reducible first | exact ih0 _ _ _ _ | exact ih1 _ _ _ _ _ _ _ _ _ _ _ | exact ih2 _ _ _ _ _ _ _ _ _ _ | exact order_QuantityFault.mono _ _ _ _ | exact parcel_compareContents.mono _ _ _ _ _ _ _ _ _ _ _ | exact lr _ | exact ln _ | refine li ?_ ?_ | refine lb ?_ fun _ => ?_ | exact ih0 _ _ _ _ | exact ih1 _ _ _ _ _ _ _ _ _ _ _ | exact ih2 _ _ _ _ _ _ _ _ _ _ | exact order_QuantityFault.mono _ _ _ _ | exact parcel_compareContents.mono _ _ _ _ _ _ _ _ _ _ _ | exact ln _ | refine li ?_ ?_ | refine lb ?_ fun _ => ?_
def parcel_contentsFault.T8 : Bool × List (List Nat × List Nat) := (true, [([], []), ([0], [0]), ([1], [1]), ([2], [2]), ([2], [2]), ([4, 2], [2, 4]), ([3, 5, 2], [2, 3, 5]), ([6, 2], [2, 6]), ([2], [2]), ([7, 8, 2, 2], [2, 7, 8]), ([9, 2], [2, 9]), ([2, 10], [2, 10])])
def parcel_contentsFault.B8 : List Nat := [0, 1, 3, 7, 7, 23, 63, 127, 7, 511, 1023, 2047]
theorem parcel_contentsFault.tab8 : rtab .any (opsOf Tryz.f47 8) = parcel_contentsFault.T8 := by kernel_rfl
theorem parcel_contentsFault.bits8 : waitsOk parcel_contentsFault.T8.2 parcel_contentsFault.B8 = true := by kernel_rfl
set_option maxHeartbeats 8000000 in
set_option maxRecDepth 100000 in
theorem parcel_contentsFault.calls (k : Nat) (A0 : Option Addr) (c0 : Nat) (l0 : List (S66)) (r : Int) (w : World) (hr0 : Kd.C k66 w A0 l0.length l0) (hc0 : l0.length ≤ c0) (h : parcel_contentsFault.f k l0 = some r) :
  Calls Tryz.prog 47 #[.slice A0 l0.length c0] w fun e w' => e = .returned (.int .i64 r) ∧ Below w.heap.size w w' := by
 have hu66 := Tryz.underlying66
 have hu39 := Tryz.underlying39
 have HR0 := Aside0.mk hr0
 have HC0 := Aside0.mk hc0
 clear hr0 hc0
 have HB := Aside0.mk (Below.refl w.heap.size w)
 have H := h
 unfold parcel_contentsFault.f at H
 clear h
 by_cases c2 : (l0.length : Int) > 100
 ·rw [if_pos c2] at H
  have c2b0 : decide (100 < (l0.length : Int)) = true := decide_eq_true c2
  have c2b1 : decide (100 < l0.length) = true := decide_eq_true (by omega)
  clear c2
  obtain rfl := Option.some.inj H
  go_enter Tryz.func47, Tryz.ntmps47
  go_wp2
  go_ret
  exact ⟨by first | rfl | (simp [errW_none, errW_some] <;> rfl) | (simp [*, errW_none, errW_some] <;> rfl), (zb w)⟩
 ·rw [if_neg c2] at H
  have c2b0 : decide (100 < (l0.length : Int)) = false := decide_eq_false c2
  have c2b1 : decide (100 < l0.length) = false := decide_eq_false (by omega)
  clear c2
  have H' := Aside0.mk H
  clear H
  go_enter Tryz.func47, Tryz.ntmps47
  go_wp2
  try simp only [sq]
  go_loopg [11] k (fun kq v11 w' => ∃ (x11_1 : Int), v11 = .int .i64 x11_1 ∧ Aside0 (parcel_contentsFault.l0 kq l0 l0 (l0.length : Int) x11_1 = some r) ∧ Aside0 (kq ≤ k) ∧ Aside0 (Below w.heap.size w w'))
  case atStart => exact ⟨(0), ar, H', ⟨Nat.le_refl _⟩, ⟨(zb w)⟩⟩
  case round =>
   clear H'
   try clear c2
   try clear c2b0
   try clear c2b1
   try clear p2
   obtain ⟨x11_1, rfl, HA, HK1, HB⟩ := hrel
   cases gk with
   | zero => exact absurd HA.out (by simp [parcel_contentsFault.l0])
   | succ k1 =>
    have H := HA.out
    clear HA
    simp only [parcel_contentsFault.l0] at H
    by_cases c3 : x11_1 < (l0.length : Int)
    ·rw [if_pos c3] at H
     have c3b0 : decide (x11_1 < (l0.length : Int)) = true := decide_eq_true c3
     clear c3
     by_cases c4 : 0 ≤ x11_1
     ·rw [if_pos c4] at H
      have c4b0 : decide (0 ≤ x11_1) = true := decide_eq_true c4
      clear c4
      by_cases c5 : x11_1 < (l0.length : Int)
      ·rw [if_pos c5] at H
       have c5b0 : decide (x11_1 < (l0.length : Int)) = true := decide_eq_true c5
       clear c5
       have HC6 := Aside0.mk H
       clear H
       have p371 : 0 ≤ (x11_1 : Int) := of_decide_eq_true (by assumption)
       have q371 : x11_1 < (l0.length : Int) := of_decide_eq_true (by assumption)
       obtain ⟨ad371, e371, hx371_0, hx371_1, hx371_2, hx371_3, hx371_4⟩ := at_T66 HR0.out x11_1 p371 q371
       cases e371
       replace hx371_0 := hz HB hx371_0
       replace hx371_1 := hz HB hx371_1
       replace hx371_2 := hz HB hx371_2
       replace hx371_3 := hz HB hx371_3
       replace hx371_4 := hz HB hx371_4
       replace p371 := eq_true p371
       replace q371 := eq_true q371
       go_upto_region 6 with (first | ((with_reducible refine gD 4 rfl ?_); refine bx w 4 #[.string (⟨#[]⟩ : ByteArray), .string (⟨#[]⟩ : ByteArray), .string (⟨#[]⟩ : ByteArray), .int .i64 0, .int .i64 0] 66 ?_; intro gb372 hg w7 hb BK372 GW372 GE372; clear HB; intro HB; clear hb hg; obtain ⟨hcz8_0, hcz8_1, hcz8_2, hcz8_3, hcz8_4, hfz8_0, hfz8_1, hfz8_2, hfz8_3, hfz8_4⟩ := cz5 BK372))
       (try simp only [sq])
       go_cut [36] (fun v36 wc => ∃ (kq : Nat) (x36_5 : Bool), v36 = .bool x36_5 ∧ Aside0 (parcel_contentsFault.j1 kq l0 x11_1 l0 (l0.length : Int) x11_1 x36_5 ((rd_T66 l0 x11_1).f0) ((rd_T66 l0 x11_1).f1) ((rd_T66 l0 x11_1).f2) ((rd_T66 l0 x11_1).f3.f0) ((rd_T66 l0 x11_1).f3.f1) = some r) ∧ Aside0 (kq ≤ k1) ∧ Aside0 (wc.heap[gb372]? = some (.cells #[.string ((rd_T66 l0 x11_1).f0), .string ((rd_T66 l0 x11_1).f1), .string ((rd_T66 l0 x11_1).f2), .int .i64 ((rd_T66 l0 x11_1).f3.f0), .int .i64 ((rd_T66 l0 x11_1).f3.f1)] 66 (0, 0))) ∧ Aside0 (Below w.heap.size w wc))
       case first =>
        have H := HC6.out
        clear HC6
        replace H := Option.bind_eq_some_iff.mp H
        obtain ⟨t373, A90, H⟩ := H
        try dsimp only at H
        have A9 := Aside0.mk A90
        clear A90
        by_cases c10 : t373 = true
        ·subst c10
         have H1 : ((kit_IsName.f ((rd_T66 l0 x11_1).f1)).bind fun t374 => (if t374 = true then (if ((rd_T66 l0 x11_1).f2).toList = ([] : List UInt8) then (parcel_contentsFault.j1 k1 l0 x11_1 l0 (l0.length : Int) x11_1 false ((rd_T66 l0 x11_1).f0) ((rd_T66 l0 x11_1).f1) ((rd_T66 l0 x11_1).f2) ((rd_T66 l0 x11_1).f3.f0) ((rd_T66 l0 x11_1).f3.f1)) else ((kit_IsName.f ((rd_T66 l0 x11_1).f2)).bind fun t375 => (parcel_contentsFault.j1 k1 l0 x11_1 l0 (l0.length : Int) x11_1 (!t375) ((rd_T66 l0 x11_1).f0) ((rd_T66 l0 x11_1).f1) ((rd_T66 l0 x11_1).f2) ((rd_T66 l0 x11_1).f3.f0) ((rd_T66 l0 x11_1).f3.f1)))) else (parcel_contentsFault.j1 k1 l0 x11_1 l0 (l0.length : Int) x11_1 true ((rd_T66 l0 x11_1).f0) ((rd_T66 l0 x11_1).f1) ((rd_T66 l0 x11_1).f2) ((rd_T66 l0 x11_1).f3.f0) ((rd_T66 l0 x11_1).f3.f1)))) = some r := by rw [if_pos rfl] at H; exact H
         clear H
         have H := H1
         clear H1
         replace H := Option.bind_eq_some_iff.mp H
         obtain ⟨t374, A110, H⟩ := H
         try dsimp only at H
         have A11 := Aside0.mk A110
         clear A110
         by_cases c12 : t374 = true
         ·subst c12
          have H1 : (if ((rd_T66 l0 x11_1).f2).toList = ([] : List UInt8) then (parcel_contentsFault.j1 k1 l0 x11_1 l0 (l0.length : Int) x11_1 false ((rd_T66 l0 x11_1).f0) ((rd_T66 l0 x11_1).f1) ((rd_T66 l0 x11_1).f2) ((rd_T66 l0 x11_1).f3.f0) ((rd_T66 l0 x11_1).f3.f1)) else ((kit_IsName.f ((rd_T66 l0 x11_1).f2)).bind fun t375 => (parcel_contentsFault.j1 k1 l0 x11_1 l0 (l0.length : Int) x11_1 (!t375) ((rd_T66 l0 x11_1).f0) ((rd_T66 l0 x11_1).f1) ((rd_T66 l0 x11_1).f2) ((rd_T66 l0 x11_1).f3.f0) ((rd_T66 l0 x11_1).f3.f1)))) = some r := by rw [if_pos rfl] at H; exact H
          clear H
          have H := H1
          clear H1
          by_cases c13 : ((rd_T66 l0 x11_1).f2).toList = ([] : List UInt8)
          ·rw [if_pos c13] at H
           have c13b0 : (((rd_T66 l0 x11_1).f2).toList == ([] : List UInt8)) = true := beq_iff_eq.mpr c13
           have c13b1 : (((rd_T66 l0 x11_1).f2).toList != ([] : List UInt8)) = false := bne_eq_false_iff_eq.mpr c13
           clear c13
           (first | rw [c13b0] | (simp only [i64_w, i32_w]; rw [c13b0]) | skip)
           have H' := Aside0.mk H
           clear H
           obtain ⟨hcz14_0, hcz14_1, hcz14_2, hcz14_3, hcz14_4, hfz14_0, hfz14_1, hfz14_2, hfz14_3, hfz14_4⟩ := cz5 BK372
           go_wp2_with (first | ((with_reducible refine gC 23 rfl ?_); refine gl_ 18 Tryz.func23 #[.string ((rd_T66 l0 x11_1).f0)] ?_; (with_reducible refine (kit_IsName.calls ((rd_T66 l0 x11_1).f0) true _ A9.out).mono ?_); rintro e w15 ⟨rfl, hb⟩; refine ⟨_, rfl, ?_⟩; replace BK372 := Aside0.mk (blk_below (g := gb372) (o := .cells #[.string ((rd_T66 l0 x11_1).f0), .string ((rd_T66 l0 x11_1).f1), .string ((rd_T66 l0 x11_1).f2), .int .i64 ((rd_T66 l0 x11_1).f3.f0), .int .i64 ((rd_T66 l0 x11_1).f3.f1)] 66 (0, 0)) (by (with_reducible repeat (first | refine blk_drewN ?_ _ | refine blk_drew ?_ | refine blk_alloc ?_ _)); refine blk_put (cs := #[.string ((rd_T66 l0 x11_1).f0), .string ((rd_T66 l0 x11_1).f1), .string ((rd_T66 l0 x11_1).f2), .int .i64 ((rd_T66 l0 x11_1).f3.f0), .int .i64 0]) ?_ 4 _ rfl; (with_reducible repeat (first | refine blk_drewN ?_ _ | refine blk_drew ?_ | refine blk_alloc ?_ _)); refine blk_put (cs := #[.string ((rd_T66 l0 x11_1).f0), .string ((rd_T66 l0 x11_1).f1), .string ((rd_T66 l0 x11_1).f2), .int .i64 0, .int .i64 0]) ?_ 3 _ rfl; (with_reducible repeat (first | refine blk_drewN ?_ _ | refine blk_drew ?_ | refine blk_alloc ?_ _)); refine blk_put (cs := #[.string ((rd_T66 l0 x11_1).f0), .string ((rd_T66 l0 x11_1).f1), .string (⟨#[]⟩ : ByteArray), .int .i64 0, .int .i64 0]) ?_ 2 _ rfl; (with_reducible repeat (first | refine blk_drewN ?_ _ | refine blk_drew ?_ | refine blk_alloc ?_ _)); refine blk_put (cs := #[.string ((rd_T66 l0 x11_1).f0), .string (⟨#[]⟩ : ByteArray), .string (⟨#[]⟩ : ByteArray), .int .i64 0, .int .i64 0]) ?_ 1 _ rfl; (with_reducible repeat (first | refine blk_drewN ?_ _ | refine blk_drew ?_ | refine blk_alloc ?_ _)); refine blk_put (cs := #[.string (⟨#[]⟩ : ByteArray), .string (⟨#[]⟩ : ByteArray), .string (⟨#[]⟩ : ByteArray), .int .i64 0, .int .i64 0]) ?_ 0 _ rfl; exact zk BK372) hb); replace HB := hs w hb; (try clear hb); obtain ⟨hcz16_0, hcz16_1, hcz16_2, hcz16_3, hcz16_4, hfz16_0, hfz16_1, hfz16_2, hfz16_3, hfz16_4⟩ := cz5 BK372) | (go_at_call 23; (with_reducible refine (kit_IsName.calls ((rd_T66 l0 x11_1).f1) true _ A11.out).mono ?_); rintro e w17 ⟨rfl, hb⟩; replace BK372 := bb BK372 hb; replace HB := hs w hb; (try clear hb); obtain ⟨hcz18_0, hcz18_1, hcz18_2, hcz18_3, hcz18_4, hfz18_0, hfz18_1, hfz18_2, hfz18_3, hfz18_4⟩ := cz5 BK372))
           go_meet
           case rel => exact ⟨_, (false), ar, H', ⟨by have := HK1.out; first | omega | exact Nat.le_refl _⟩, ⟨(zk BK372)⟩, ⟨(zb w)⟩⟩
          ·rw [if_neg c13] at H
           have c13b0 : (((rd_T66 l0 x11_1).f2).toList == ([] : List UInt8)) = false := beq_eq_false_iff_ne.mpr c13
           have c13b1 : (((rd_T66 l0 x11_1).f2).toList != ([] : List UInt8)) = true := bne_iff_ne.mpr c13
           (first | rw [c13b0] | (simp only [i64_w, i32_w]; rw [c13b0]) | skip)
           replace H := Option.bind_eq_some_iff.mp H
           obtain ⟨t375, A190, H⟩ := H
           try dsimp only at H
           have A19 := Aside0.mk A190
           clear A190
           have H' := Aside0.mk H
           clear H
           obtain ⟨hcz20_0, hcz20_1, hcz20_2, hcz20_3, hcz20_4, hfz20_0, hfz20_1, hfz20_2, hfz20_3, hfz20_4⟩ := cz5 BK372
           go_wp2_with (first | ((with_reducible refine gC 23 rfl ?_); refine gl_ 18 Tryz.func23 #[.string ((rd_T66 l0 x11_1).f0)] ?_; (with_reducible refine (kit_IsName.calls ((rd_T66 l0 x11_1).f0) true _ A9.out).mono ?_); rintro e w21 ⟨rfl, hb⟩; refine ⟨_, rfl, ?_⟩; replace BK372 := Aside0.mk (blk_below (g := gb372) (o := .cells #[.string ((rd_T66 l0 x11_1).f0), .string ((rd_T66 l0 x11_1).f1), .string ((rd_T66 l0 x11_1).f2), .int .i64 ((rd_T66 l0 x11_1).f3.f0), .int .i64 ((rd_T66 l0 x11_1).f3.f1)] 66 (0, 0)) (by (with_reducible repeat (first | refine blk_drewN ?_ _ | refine blk_drew ?_ | refine blk_alloc ?_ _)); refine blk_put (cs := #[.string ((rd_T66 l0 x11_1).f0), .string ((rd_T66 l0 x11_1).f1), .string ((rd_T66 l0 x11_1).f2), .int .i64 ((rd_T66 l0 x11_1).f3.f0), .int .i64 0]) ?_ 4 _ rfl; (with_reducible repeat (first | refine blk_drewN ?_ _ | refine blk_drew ?_ | refine blk_alloc ?_ _)); refine blk_put (cs := #[.string ((rd_T66 l0 x11_1).f0), .string ((rd_T66 l0 x11_1).f1), .string ((rd_T66 l0 x11_1).f2), .int .i64 0, .int .i64 0]) ?_ 3 _ rfl; (with_reducible repeat (first | refine blk_drewN ?_ _ | refine blk_drew ?_ | refine blk_alloc ?_ _)); refine blk_put (cs := #[.string ((rd_T66 l0 x11_1).f0), .string ((rd_T66 l0 x11_1).f1), .string (⟨#[]⟩ : ByteArray), .int .i64 0, .int .i64 0]) ?_ 2 _ rfl; (with_reducible repeat (first | refine blk_drewN ?_ _ | refine blk_drew ?_ | refine blk_alloc ?_ _)); refine blk_put (cs := #[.string ((rd_T66 l0 x11_1).f0), .string (⟨#[]⟩ : ByteArray), .string (⟨#[]⟩ : ByteArray), .int .i64 0, .int .i64 0]) ?_ 1 _ rfl; (with_reducible repeat (first | refine blk_drewN ?_ _ | refine blk_drew ?_ | refine blk_alloc ?_ _)); refine blk_put (cs := #[.string (⟨#[]⟩ : ByteArray), .string (⟨#[]⟩ : ByteArray), .string (⟨#[]⟩ : ByteArray), .int .i64 0, .int .i64 0]) ?_ 0 _ rfl; exact zk BK372) hb); replace HB := hs w hb; (try clear hb); obtain ⟨hcz22_0, hcz22_1, hcz22_2, hcz22_3, hcz22_4, hfz22_0, hfz22_1, hfz22_2, hfz22_3, hfz22_4⟩ := cz5 BK372) | (go_at_call 23; (with_reducible refine (kit_IsName.calls ((rd_T66 l0 x11_1).f1) true _ A11.out).mono ?_); rintro e w23 ⟨rfl, hb⟩; replace BK372 := bb BK372 hb; replace HB := hs w hb; (try clear hb); obtain ⟨hcz24_0, hcz24_1, hcz24_2, hcz24_3, hcz24_4, hfz24_0, hfz24_1, hfz24_2, hfz24_3, hfz24_4⟩ := cz5 BK372) | (go_at_call 23; (with_reducible refine (kit_IsName.calls ((rd_T66 l0 x11_1).f2) t375 _ A19.out).mono ?_); rintro e w25 ⟨rfl, hb⟩; replace BK372 := bb BK372 hb; replace HB := hs w hb; (try clear hb)))
           go_meet
           case rel => exact ⟨_, (!t375), ar, H', ⟨by have := HK1.out; first | omega | exact Nat.le_refl _⟩, ⟨(zk BK372)⟩, ⟨(zb w)⟩⟩
         ·replace c12 := Bool.eq_false_iff.mpr c12
          subst c12
          have H1 : (parcel_contentsFault.j1 k1 l0 x11_1 l0 (l0.length : Int) x11_1 true ((rd_T66 l0 x11_1).f0) ((rd_T66 l0 x11_1).f1) ((rd_T66 l0 x11_1).f2) ((rd_T66 l0 x11_1).f3.f0) ((rd_T66 l0 x11_1).f3.f1)) = some r := by rw [if_neg (show ¬ (false = true) by decide)] at H; exact H
          clear H
          have H := H1
          clear H1
          have H' := Aside0.mk H
          clear H
          obtain ⟨hcz26_0, hcz26_1, hcz26_2, hcz26_3, hcz26_4, hfz26_0, hfz26_1, hfz26_2, hfz26_3, hfz26_4⟩ := cz5 BK372
          go_wp2_with (first | ((with_reducible refine gC 23 rfl ?_); refine gl_ 18 Tryz.func23 #[.string ((rd_T66 l0 x11_1).f0)] ?_; (with_reducible refine (kit_IsName.calls ((rd_T66 l0 x11_1).f0) true _ A9.out).mono ?_); rintro e w27 ⟨rfl, hb⟩; refine ⟨_, rfl, ?_⟩; replace BK372 := Aside0.mk (blk_below (g := gb372) (o := .cells #[.string ((rd_T66 l0 x11_1).f0), .string ((rd_T66 l0 x11_1).f1), .string ((rd_T66 l0 x11_1).f2), .int .i64 ((rd_T66 l0 x11_1).f3.f0), .int .i64 ((rd_T66 l0 x11_1).f3.f1)] 66 (0, 0)) (by (with_reducible repeat (first | refine blk_drewN ?_ _ | refine blk_drew ?_ | refine blk_alloc ?_ _)); refine blk_put (cs := #[.string ((rd_T66 l0 x11_1).f0), .string ((rd_T66 l0 x11_1).f1), .string ((rd_T66 l0 x11_1).f2), .int .i64 ((rd_T66 l0 x11_1).f3.f0), .int .i64 0]) ?_ 4 _ rfl; (with_reducible repeat (first | refine blk_drewN ?_ _ | refine blk_drew ?_ | refine blk_alloc ?_ _)); refine blk_put (cs := #[.string ((rd_T66 l0 x11_1).f0), .string ((rd_T66 l0 x11_1).f1), .string ((rd_T66 l0 x11_1).f2), .int .i64 0, .int .i64 0]) ?_ 3 _ rfl; (with_reducible repeat (first | refine blk_drewN ?_ _ | refine blk_drew ?_ | refine blk_alloc ?_ _)); refine blk_put (cs := #[.string ((rd_T66 l0 x11_1).f0), .string ((rd_T66 l0 x11_1).f1), .string (⟨#[]⟩ : ByteArray), .int .i64 0, .int .i64 0]) ?_ 2 _ rfl; (with_reducible repeat (first | refine blk_drewN ?_ _ | refine blk_drew ?_ | refine blk_alloc ?_ _)); refine blk_put (cs := #[.string ((rd_T66 l0 x11_1).f0), .string (⟨#[]⟩ : ByteArray), .string (⟨#[]⟩ : ByteArray), .int .i64 0, .int .i64 0]) ?_ 1 _ rfl; (with_reducible repeat (first | refine blk_drewN ?_ _ | refine blk_drew ?_ | refine blk_alloc ?_ _)); refine blk_put (cs := #[.string (⟨#[]⟩ : ByteArray), .string (⟨#[]⟩ : ByteArray), .string (⟨#[]⟩ : ByteArray), .int .i64 0, .int .i64 0]) ?_ 0 _ rfl; exact zk BK372) hb); replace HB := hs w hb; (try clear hb); obtain ⟨hcz28_0, hcz28_1, hcz28_2, hcz28_3, hcz28_4, hfz28_0, hfz28_1, hfz28_2, hfz28_3, hfz28_4⟩ := cz5 BK372) | (go_at_call 23; (with_reducible refine (kit_IsName.calls ((rd_T66 l0 x11_1).f1) false _ A11.out).mono ?_); rintro e w29 ⟨rfl, hb⟩; replace BK372 := bb BK372 hb; replace HB := hs w hb; (try clear hb)))
          go_meet
          case rel => exact ⟨_, (true), ar, H', ⟨by have := HK1.out; first | omega | exact Nat.le_refl _⟩, ⟨(zk BK372)⟩, ⟨(zb w)⟩⟩
        ·replace c10 := Bool.eq_false_iff.mpr c10
         subst c10
         have H1 : (parcel_contentsFault.j1 k1 l0 x11_1 l0 (l0.length : Int) x11_1 true ((rd_T66 l0 x11_1).f0) ((rd_T66 l0 x11_1).f1) ((rd_T66 l0 x11_1).f2) ((rd_T66 l0 x11_1).f3.f0) ((rd_T66 l0 x11_1).f3.f1)) = some r := by rw [if_neg (show ¬ (false = true) by decide)] at H; exact H
         clear H
         have H := H1
         clear H1
         have H' := Aside0.mk H
         clear H
         obtain ⟨hcz30_0, hcz30_1, hcz30_2, hcz30_3, hcz30_4, hfz30_0, hfz30_1, hfz30_2, hfz30_3, hfz30_4⟩ := cz5 BK372
         go_wp2_with (first | ((with_reducible refine gC 23 rfl ?_); refine gl_ 18 Tryz.func23 #[.string ((rd_T66 l0 x11_1).f0)] ?_; (with_reducible refine (kit_IsName.calls ((rd_T66 l0 x11_1).f0) false _ A9.out).mono ?_); rintro e w31 ⟨rfl, hb⟩; refine ⟨_, rfl, ?_⟩; replace BK372 := Aside0.mk (blk_below (g := gb372) (o := .cells #[.string ((rd_T66 l0 x11_1).f0), .string ((rd_T66 l0 x11_1).f1), .string ((rd_T66 l0 x11_1).f2), .int .i64 ((rd_T66 l0 x11_1).f3.f0), .int .i64 ((rd_T66 l0 x11_1).f3.f1)] 66 (0, 0)) (by (with_reducible repeat (first | refine blk_drewN ?_ _ | refine blk_drew ?_ | refine blk_alloc ?_ _)); refine blk_put (cs := #[.string ((rd_T66 l0 x11_1).f0), .string ((rd_T66 l0 x11_1).f1), .string ((rd_T66 l0 x11_1).f2), .int .i64 ((rd_T66 l0 x11_1).f3.f0), .int .i64 0]) ?_ 4 _ rfl; (with_reducible repeat (first | refine blk_drewN ?_ _ | refine blk_drew ?_ | refine blk_alloc ?_ _)); refine blk_put (cs := #[.string ((rd_T66 l0 x11_1).f0), .string ((rd_T66 l0 x11_1).f1), .string ((rd_T66 l0 x11_1).f2), .int .i64 0, .int .i64 0]) ?_ 3 _ rfl; (with_reducible repeat (first | refine blk_drewN ?_ _ | refine blk_drew ?_ | refine blk_alloc ?_ _)); refine blk_put (cs := #[.string ((rd_T66 l0 x11_1).f0), .string ((rd_T66 l0 x11_1).f1), .string (⟨#[]⟩ : ByteArray), .int .i64 0, .int .i64 0]) ?_ 2 _ rfl; (with_reducible repeat (first | refine blk_drewN ?_ _ | refine blk_drew ?_ | refine blk_alloc ?_ _)); refine blk_put (cs := #[.string ((rd_T66 l0 x11_1).f0), .string (⟨#[]⟩ : ByteArray), .string (⟨#[]⟩ : ByteArray), .int .i64 0, .int .i64 0]) ?_ 1 _ rfl; (with_reducible repeat (first | refine blk_drewN ?_ _ | refine blk_drew ?_ | refine blk_alloc ?_ _)); refine blk_put (cs := #[.string (⟨#[]⟩ : ByteArray), .string (⟨#[]⟩ : ByteArray), .string (⟨#[]⟩ : ByteArray), .int .i64 0, .int .i64 0]) ?_ 0 _ rfl; exact zk BK372) hb); replace HB := hs w hb; (try clear hb)))
         go_meet
         case rel => exact ⟨_, (true), ar, H', ⟨by have := HK1.out; first | omega | exact Nat.le_refl _⟩, ⟨(zk BK372)⟩, ⟨(zb w)⟩⟩
       case rest =>
        clear HC6
        try clear c1
        try clear c2
        try clear c2b0
        try clear c2b1
        try clear p2
        try clear c3
        try clear c3b0
        try clear p3
        try clear q3
        try clear hx3
        try clear c4
        try clear c4b0
        try clear c5
        try clear c5b0
        try clear c10
        try clear c12
        try clear c13
        try clear c13b0
        try clear c13b1
        try clear c23
        try clear hcz14_0 hcz14_1 hcz14_2 hcz14_3 hcz14_4
        try clear hcz16_0 hcz16_1 hcz16_2 hcz16_3 hcz16_4
        try clear hcz18_0 hcz18_1 hcz18_2 hcz18_3 hcz18_4
        try clear hcz20_0 hcz20_1 hcz20_2 hcz20_3 hcz20_4
        try clear hcz22_0 hcz22_1 hcz22_2 hcz22_3 hcz22_4
        try clear hcz24_0 hcz24_1 hcz24_2 hcz24_3 hcz24_4
        try clear hcz26_0 hcz26_1 hcz26_2 hcz26_3 hcz26_4
        try clear hcz28_0 hcz28_1 hcz28_2 hcz28_3 hcz28_4
        try clear hcz30_0 hcz30_1 hcz30_2 hcz30_3 hcz30_4
        try clear hcz8_0 hcz8_1 hcz8_2 hcz8_3 hcz8_4
        try clear hfz14_0 hfz14_1 hfz14_2 hfz14_3 hfz14_4
        try clear hfz16_0 hfz16_1 hfz16_2 hfz16_3 hfz16_4
        try clear hfz18_0 hfz18_1 hfz18_2 hfz18_3 hfz18_4
        try clear hfz20_0 hfz20_1 hfz20_2 hfz20_3 hfz20_4
        try clear hfz22_0 hfz22_1 hfz22_2 hfz22_3 hfz22_4
        try clear hfz24_0 hfz24_1 hfz24_2 hfz24_3 hfz24_4
        try clear hfz26_0 hfz26_1 hfz26_2 hfz26_3 hfz26_4
        try clear hfz28_0 hfz28_1 hfz28_2 hfz28_3 hfz28_4
        try clear hfz30_0 hfz30_1 hfz30_2 hfz30_3 hfz30_4
        try clear hfz8_0 hfz8_1 hfz8_2 hfz8_3 hfz8_4
        try clear hx371_0
        try clear hx371_1
        try clear hx371_2
        try clear hx371_3
        try clear hx371_4
        try clear p2
        try clear p371
        try clear q371
        obtain ⟨kq, x36_5, rfl, HA, HJ5, BK372, HB⟩ := hcut
        cases kq with
        | zero => exact absurd HA.out (by simp [parcel_contentsFault.j1])
        | succ kj5 =>
         have H := HA.out
         clear HA
         simp only [parcel_contentsFault.j1] at H
         by_cases c32 : x36_5 = true
         ·subst c32
          have H1 : (some 5) = some r := by rw [if_pos rfl] at H; exact H
          clear H
          have H := H1
          clear H1
          obtain rfl := Option.some.inj H
          go_wp2
          go_ret
          exact ⟨by first | rfl | (simp [errW_none, errW_some] <;> rfl) | (simp [*, errW_none, errW_some] <;> rfl), (zb w)⟩
         ·replace c32 := Bool.eq_false_iff.mpr c32
          subst c32
          have H1 : (if x11_1 > 0 then (if 0 ≤ (wrap64 (x11_1 - 1)) then (if (wrap64 (x11_1 - 1)) < (l0.length : Int) then ((parcel_compareContents.f kj5 ((rd_T66 l0 (wrap64 (x11_1 - 1))).f0) ((rd_T66 l0 (wrap64 (x11_1 - 1))).f1) ((rd_T66 l0 (wrap64 (x11_1 - 1))).f2) ((rd_T66 l0 (wrap64 (x11_1 - 1))).f3.f0) ((rd_T66 l0 (wrap64 (x11_1 - 1))).f3.f1) ((rd_T66 l0 x11_1).f0) ((rd_T66 l0 x11_1).f1) ((rd_T66 l0 x11_1).f2) ((rd_T66 l0 x11_1).f3.f0) ((rd_T66 l0 x11_1).f3.f1)).bind fun t377 => (parcel_contentsFault.j2 kj5 l0 l0 (l0.length : Int) x11_1 (decide (t377 ≥ 0)) ((rd_T66 l0 x11_1).f0) ((rd_T66 l0 x11_1).f1) ((rd_T66 l0 x11_1).f2) ((rd_T66 l0 x11_1).f3.f0) ((rd_T66 l0 x11_1).f3.f1))) else (none)) else (none)) else (parcel_contentsFault.j2 kj5 l0 l0 (l0.length : Int) x11_1 false ((rd_T66 l0 x11_1).f0) ((rd_T66 l0 x11_1).f1) ((rd_T66 l0 x11_1).f2) ((rd_T66 l0 x11_1).f3.f0) ((rd_T66 l0 x11_1).f3.f1))) = some r := by rw [if_neg (show ¬ (false = true) by decide)] at H; exact H
          clear H
          have H := H1
          clear H1
          have HC33 := Aside0.mk H
          clear H
          go_upto_region 8 with (fail)
          go_cut [48] (fun v48 wc => ∃ (kq : Nat) (x48_32 : Bool), v48 = .bool x48_32 ∧ Aside0 (parcel_contentsFault.j2 kq l0 l0 (l0.length : Int) x11_1 x48_32 ((rd_T66 l0 x11_1).f0) ((rd_T66 l0 x11_1).f1) ((rd_T66 l0 x11_1).f2) ((rd_T66 l0 x11_1).f3.f0) ((rd_T66 l0 x11_1).f3.f1) = some r) ∧ Aside0 (kq ≤ kj5) ∧ Aside0 (wc.heap[gb372]? = some (.cells #[.string ((rd_T66 l0 x11_1).f0), .string ((rd_T66 l0 x11_1).f1), .string ((rd_T66 l0 x11_1).f2), .int .i64 ((rd_T66 l0 x11_1).f3.f0), .int .i64 ((rd_T66 l0 x11_1).f3.f1)] 66 (0, 0))) ∧ Aside0 (Below w.heap.size w wc))
          case first =>
           have H := HC33.out
           clear HC33
           by_cases c34 : x11_1 > 0
           ·rw [if_pos c34] at H
            have c34b0 : decide (0 < x11_1) = true := decide_eq_true c34
            clear c34
            (first | rw [c34b0] | (simp only [i64_w, i32_w]; rw [c34b0]) | skip)
            obtain ⟨ji35, hji35⟩ : ∃ j_ : Int, (wrap64 (x11_1 - 1)) = j_ := ⟨_, rfl⟩
            replace H : (if 0 ≤ (ji35) then (if (ji35) < (l0.length : Int) then ((parcel_compareContents.f kj5 ((rd_T66 l0 (ji35)).f0) ((rd_T66 l0 (ji35)).f1) ((rd_T66 l0 (ji35)).f2) ((rd_T66 l0 (ji35)).f3.f0) ((rd_T66 l0 (ji35)).f3.f1) ((rd_T66 l0 x11_1).f0) ((rd_T66 l0 x11_1).f1) ((rd_T66 l0 x11_1).f2) ((rd_T66 l0 x11_1).f3.f0) ((rd_T66 l0 x11_1).f3.f1)).bind fun t377 => (parcel_contentsFault.j2 kj5 l0 l0 (l0.length : Int) x11_1 (decide (t377 ≥ 0)) ((rd_T66 l0 x11_1).f0) ((rd_T66 l0 x11_1).f1) ((rd_T66 l0 x11_1).f2) ((rd_T66 l0 x11_1).f3.f0) ((rd_T66 l0 x11_1).f3.f1))) else (none)) else (none)) = some r := by first | (rw [hji35] at H; exact H) | (simp only [hji35] at H ⊢; exact H)
            have hji35w : (IntKind.i64.wrap (x11_1 - 1)) = ji35 := (i64_w _).trans hji35
            by_cases c36 : 0 ≤ (ji35)
            ·rw [if_pos c36] at H
             have c36b0 : decide (0 ≤ (ji35)) = true := decide_eq_true c36
             clear c36
             by_cases c37 : (ji35) < (l0.length : Int)
             ·rw [if_pos c37] at H
              have c37b0 : decide ((ji35) < (l0.length : Int)) = true := decide_eq_true c37
              clear c37
              replace H := Option.bind_eq_some_iff.mp H
              obtain ⟨t377, A380, H⟩ := H
              try dsimp only at H
              have A38 := Aside0.mk A380
              clear A380
              have H' := Aside0.mk H
              clear H
              try go_wp2
              have n0_ := Aside0.mk (blk_drew BK372.out)
              have n1_ := Aside0.mk (below_drew1 HB.out)
              clear BK372
              clear HB
              have BK372 := n0_
              have HB := n1_
              clear n0_ n1_
              have p376 : 0 ≤ ((ji35) : Int) := of_decide_eq_true (by assumption)
              have q376 : (ji35) < (l0.length : Int) := of_decide_eq_true (by assumption)
              obtain ⟨ad376, e376, hx376_0, hx376_1, hx376_2, hx376_3, hx376_4⟩ := at_T66 HR0.out (ji35) p376 q376
              have hw376_4 := hx376_4
              have hw376_3 := hx376_3
              have hw376_2 := hx376_2
              have hw376_1 := hx376_1
              have hw376_0 := hx376_0
              obtain rfl : ad371 = ad376 := (by injection e376)
              replace hx376_0 := hz HB hx376_0
              replace hx376_1 := hz HB hx376_1
              replace hx376_2 := hz HB hx376_2
              replace hx376_3 := hz HB hx376_3
              replace hx376_4 := hz HB hx376_4
              replace p376 := eq_true p376
              replace q376 := eq_true q376
              refine start_ (n := 12) (S := fun w' => w'.cell? ⟨gb372, 0, none⟩ = some (.string ((rd_T66 l0 x11_1).f0)) ∧ w'.cell? ⟨gb372, 1, none⟩ = some (.string ((rd_T66 l0 x11_1).f1)) ∧ w'.cell? ⟨gb372, 2, none⟩ = some (.string ((rd_T66 l0 x11_1).f2)) ∧ w'.cell? ⟨gb372, 3, none⟩ = some (.int .i64 ((rd_T66 l0 x11_1).f3.f0)) ∧ w'.cell? ⟨gb372, 4, none⟩ = some (.int .i64 ((rd_T66 l0 x11_1).f3.f1)) ∧ w'.cell? (ad371.add (((ji35)).toNat * 5)) = some (.string ((rd_T66 l0 (ji35)).f0)) ∧ w'.cell? ⟨(ad371.add (((ji35)).toNat * 5)).block, (ad371.add (((ji35)).toNat * 5)).off + 1, none⟩ = some (.string ((rd_T66 l0 (ji35)).f1)) ∧ w'.cell? ⟨(ad371.add (((ji35)).toNat * 5)).block, (ad371.add (((ji35)).toNat * 5)).off + 2, none⟩ = some (.string ((rd_T66 l0 (ji35)).f2)) ∧ w'.cell? ⟨(ad371.add (((ji35)).toNat * 5)).block, (ad371.add (((ji35)).toNat * 5)).off + 3, none⟩ = some (.int .i64 ((rd_T66 l0 (ji35)).f3.f0)) ∧ w'.cell? ⟨(ad371.add (((ji35)).toNat * 5)).block, (ad371.add (((ji35)).toNat * 5)).off + 4, none⟩ = some (.int .i64 ((rd_T66 l0 (ji35)).f3.f1))) (ds := []) (bm 12 0) (by kernel_rfl) rfl rfl ⟨(blk_cell BK372.out 0).trans rfl, (blk_cell BK372.out 1).trans rfl, (blk_cell BK372.out 2).trans rfl, (blk_cell BK372.out 3).trans rfl, (blk_cell BK372.out 4).trans rfl, ((HB.out.cell (World.block_lt_of_cell? w _ hw376_0)).trans hw376_0), ((HB.out.cell (World.block_lt_of_cell? w _ hw376_1)).trans hw376_1), ((HB.out.cell (World.block_lt_of_cell? w _ hw376_2)).trans hw376_2), ((HB.out.cell (World.block_lt_of_cell? w _ hw376_3)).trans hw376_3), ((HB.out.cell (World.block_lt_of_cell? w _ hw376_4)).trans hw376_4)⟩ (fun hHeld => ?_); refine with_tabW parcel_contentsFault.tab8 parcel_contentsFault.bits8 (fun HT_ HW_ => ?_)
              generalize wc.drew = w39 at BK372 HB hx376_0 hx376_1 hx376_2 hx376_3 hx376_4 hHeld ⊢
              refine pu 0 37 (bm 12 1) HT_ ?_
              refine pu 1 38 (bm 12 3) HT_ ?_
              refine pu 2 39 (bm 12 7) HT_ ?_
              refine pu 3 40 (bm 12 15) HT_ ?_
              refine pu 4 41 (bm 12 31) HT_ ?_
              refine pu 5 42 (bm 12 63) HT_ ?_
              refine pu 6 43 (bm 12 127) HT_ ?_
              refine ta10 7 44 (bm 12 255) HT_ HW_ hHeld ?_
              refine ta10 8 45 (bm 12 511) HT_ HW_ hHeld ?_
              refine one_ (i := 9) (N := some 46) (bm 12 1023) rfl rfl (one_of HT_.out (by kernel_rfl)) (by decide) (fun K hK => ?_)
              refine goes_ Tryz.func72 (by kernel_rfl) rfl #[.agg #[.string ((rd_T66 l0 (ji35)).f0), .string ((rd_T66 l0 (ji35)).f1), .string ((rd_T66 l0 (ji35)).f2), .int .i64 ((rd_T66 l0 (ji35)).f3.f0), .int .i64 ((rd_T66 l0 (ji35)).f3.f1)], .agg #[.string ((rd_T66 l0 x11_1).f0), .string ((rd_T66 l0 x11_1).f1), .string ((rd_T66 l0 x11_1).f2), .int .i64 ((rd_T66 l0 x11_1).f3.f0), .int .i64 ((rd_T66 l0 x11_1).f3.f1)]] (by rfl) rfl rfl (by (try simp only [List.map_toArray, List.map_cons, List.map_nil]); first | done | (simp only [hji35]; rfl) | rfl | (simp only [List.length_drop, List.length_take]; rfl) | (simp only [R_ww1, R_ww2]; rfl)) ?_
              with_reducible refine (parcel_compareContents.calls kj5 ((rd_T66 l0 (ji35)).f0) ((rd_T66 l0 (ji35)).f1) ((rd_T66 l0 (ji35)).f2) ((rd_T66 l0 (ji35)).f3.f0) ((rd_T66 l0 (ji35)).f3.f1) ((rd_T66 l0 x11_1).f0) ((rd_T66 l0 x11_1).f1) ((rd_T66 l0 x11_1).f2) ((rd_T66 l0 x11_1).f3.f0) ((rd_T66 l0 x11_1).f3.f1) t377 _ A38.out).mono ?_
              rintro e w40 ⟨rfl, hb⟩
              refine ⟨_, rfl, ?_⟩
              have n0_ := bb BK372 hb
              have n1_ := hs w hb
              clear BK372
              clear HB
              have BK372 := n0_
              have HB := n1_
              clear n0_ n1_
              (try clear hb)
              (try clear hb2)
              (try clear hk)
              (try clear hi)
              refine hK.out _ _ ⟨(blk_cell BK372.out 0).trans rfl, (blk_cell BK372.out 1).trans rfl, (blk_cell BK372.out 2).trans rfl, (blk_cell BK372.out 3).trans rfl, (blk_cell BK372.out 4).trans rfl, ((HB.out.cell (World.block_lt_of_cell? w _ hw376_0)).trans hw376_0), ((HB.out.cell (World.block_lt_of_cell? w _ hw376_1)).trans hw376_1), ((HB.out.cell (World.block_lt_of_cell? w _ hw376_2)).trans hw376_2), ((HB.out.cell (World.block_lt_of_cell? w _ hw376_3)).trans hw376_3), ((HB.out.cell (World.block_lt_of_cell? w _ hw376_4)).trans hw376_4)⟩ (fun hHeld => ?_)
              clear hK K
              refine norm_ (a' := ?_) ?_ ?_
              rotate_left
              ·show Act.put _ (some 46) _ = _
               simp only [sq, i64_w, i32_w]
               rfl
              refine pu 10 47 (bm 12 2047) HT_ ?_
              refine pu 11 48 (bm 12 4095) HT_ ?_
              refine done_ (done_of HT_.out (by kernel_rfl)) ?_
              try go_wp2
              go_meet
              case rel => exact ⟨_, (decide (t377 ≥ 0)), ar, H', ⟨by have := HK1.out; have := HJ5.out; first | omega | exact Nat.le_refl _⟩, ⟨(zk BK372)⟩, ⟨(zb w)⟩⟩
             ·rw [if_neg c37] at H
              exact absurd H (by simp)
            ·rw [if_neg c36] at H
             exact absurd H (by simp)
           ·rw [if_neg c34] at H
            have c34b0 : decide (0 < x11_1) = false := decide_eq_false c34
            clear c34
            (first | rw [c34b0] | (simp only [i64_w, i32_w]; rw [c34b0]) | skip)
            have H' := Aside0.mk H
            clear H
            try go_wp2
            have n0_ := Aside0.mk (blk_drew BK372.out)
            have n1_ := Aside0.mk (below_drew1 HB.out)
            clear BK372
            clear HB
            have BK372 := n0_
            have HB := n1_
            clear n0_ n1_
            refine start_ (n := 12) (S := fun w' => True) (ds := []) (bm 12 0) (by kernel_rfl) rfl rfl trivial (fun hHeld => ?_); refine with_tabW parcel_contentsFault.tab8 parcel_contentsFault.bits8 (fun HT_ HW_ => ?_)
            generalize wc.drew = w41 at BK372 HB hHeld ⊢
            refine pu 0 37 (bm 12 1) HT_ ?_
            refine pu 1 38 (bm 12 3) HT_ ?_
            refine pu 2 39 (bm 12 7) HT_ ?_
            refine pn 3 40 (bm 12 15) HT_ ?_
            refine pn 4 41 (bm 12 31) HT_ ?_
            refine pn 5 42 (bm 12 63) HT_ ?_
            refine pn 6 43 (bm 12 127) HT_ ?_
            refine pn 7 44 (bm 12 255) HT_ ?_
            refine pn 8 45 (bm 12 511) HT_ ?_
            refine pn 9 46 (bm 12 1023) HT_ ?_
            refine pn 10 47 (bm 12 2047) HT_ ?_
            refine pu 11 48 (bm 12 4095) HT_ ?_
            refine done_ (done_of HT_.out (by kernel_rfl)) ?_
            try go_wp2
            go_meet
            case rel => exact ⟨_, (false), ar, H', ⟨by have := HK1.out; have := HJ5.out; first | omega | exact Nat.le_refl _⟩, ⟨(zk BK372)⟩, ⟨(zb w)⟩⟩
          case rest =>
           clear HC33
           try clear c1
           try clear c2
           try clear c2b0
           try clear c2b1
           try clear p2
           try clear c3
           try clear c3b0
           try clear p3
           try clear q3
           try clear hx3
           try clear c4
           try clear c4b0
           try clear c5
           try clear c5b0
           try clear p6
           try clear c7
           try clear c10
           try clear c12
           try clear c13
           try clear c13b0
           try clear c13b1
           try clear c23
           try clear c32
           try clear c34
           try clear c34b0
           try clear c36
           try clear c36b0
           try clear c37
           try clear c37b0
           try clear p37
           try clear q37
           try clear hx37
           try clear hcz14_0 hcz14_1 hcz14_2 hcz14_3 hcz14_4
           try clear hcz16_0 hcz16_1 hcz16_2 hcz16_3 hcz16_4
           try clear hcz18_0 hcz18_1 hcz18_2 hcz18_3 hcz18_4
           try clear hcz20_0 hcz20_1 hcz20_2 hcz20_3 hcz20_4
           try clear hcz22_0 hcz22_1 hcz22_2 hcz22_3 hcz22_4
           try clear hcz24_0 hcz24_1 hcz24_2 hcz24_3 hcz24_4
           try clear hcz26_0 hcz26_1 hcz26_2 hcz26_3 hcz26_4
           try clear hcz28_0 hcz28_1 hcz28_2 hcz28_3 hcz28_4
           try clear hcz30_0 hcz30_1 hcz30_2 hcz30_3 hcz30_4
           try clear hcz8_0 hcz8_1 hcz8_2 hcz8_3 hcz8_4
           try clear hfz14_0 hfz14_1 hfz14_2 hfz14_3 hfz14_4
           try clear hfz16_0 hfz16_1 hfz16_2 hfz16_3 hfz16_4
           try clear hfz18_0 hfz18_1 hfz18_2 hfz18_3 hfz18_4
           try clear hfz20_0 hfz20_1 hfz20_2 hfz20_3 hfz20_4
           try clear hfz22_0 hfz22_1 hfz22_2 hfz22_3 hfz22_4
           try clear hfz24_0 hfz24_1 hfz24_2 hfz24_3 hfz24_4
           try clear hfz26_0 hfz26_1 hfz26_2 hfz26_3 hfz26_4
           try clear hfz28_0 hfz28_1 hfz28_2 hfz28_3 hfz28_4
           try clear hfz30_0 hfz30_1 hfz30_2 hfz30_3 hfz30_4
           try clear hfz8_0 hfz8_1 hfz8_2 hfz8_3 hfz8_4
           try clear hx371_0
           try clear hx371_1
           try clear hx371_2
           try clear hx371_3
           try clear hx371_4
           try clear hx376_0
           try clear hx376_1
           try clear hx376_2
           try clear hx376_3
           try clear hx376_4
           try clear p2
           try clear p3
           try clear p371
           try clear p376
           try clear q3
           try clear q371
           try clear q376
           obtain ⟨kq, x48_32, rfl, HA, HJ32, BK372, HB⟩ := hcut
           cases kq with
           | zero => exact absurd HA.out (by simp [parcel_contentsFault.j2])
           | succ kj32 =>
            have H := HA.out
            clear HA
            simp only [parcel_contentsFault.j2] at H
            by_cases c42 : x48_32 = true
            ·subst c42
             have H1 : (some 8) = some r := by rw [if_pos rfl] at H; exact H
             clear H
             have H := H1
             clear H1
             obtain rfl := Option.some.inj H
             go_wp2
             go_ret
             exact ⟨by first | rfl | (simp [errW_none, errW_some] <;> rfl) | (simp [*, errW_none, errW_some] <;> rfl), (zb w)⟩
            ·replace c42 := Bool.eq_false_iff.mpr c42
             subst c42
             have H1 : ((order_QuantityFault.f kj32 ((rd_T66 l0 x11_1).f3.f0) ((rd_T66 l0 x11_1).f3.f1) false).bind fun t378 => (if t378 = 0 then (parcel_contentsFault.l0 kj32 l0 l0 (l0.length : Int) (wrap64 (x11_1 + 1))) else (some t378))) = some r := by rw [if_neg (show ¬ (false = true) by decide)] at H; exact H
             clear H
             have H := H1
             clear H1
             replace H := Option.bind_eq_some_iff.mp H
             obtain ⟨t378, A430, H⟩ := H
             try dsimp only at H
             have A43 := Aside0.mk A430
             clear A430
             by_cases c44 : t378 = 0
             ·rw [if_pos c44] at H
              have c44b0 : (t378 == 0) = true := beq_iff_eq.mpr c44
              have c44b1 : (t378 != 0) = false := bne_eq_false_iff_eq.mpr c44
              clear c44
              have H' := Aside0.mk H
              clear H
              obtain ⟨hcz45_0, hcz45_1, hcz45_2, hcz45_3, hcz45_4, hfz45_0, hfz45_1, hfz45_2, hfz45_3, hfz45_4⟩ := cz5 BK372
              go_wp2_with (first | ((with_reducible refine gC 46 rfl ?_); refine gl_ 51 Tryz.func46 #[.agg #[.int .i64 ((rd_T66 l0 x11_1).f3.f0), .int .i64 ((rd_T66 l0 x11_1).f3.f1)], .bool false] ?_; (with_reducible refine (order_QuantityFault.calls kj32 ((rd_T66 l0 x11_1).f3.f0) ((rd_T66 l0 x11_1).f3.f1) false t378 _ A43.out).mono ?_); rintro e w46 ⟨rfl, hb⟩; refine ⟨_, rfl, ?_⟩; replace BK372 := bb BK372 hb; replace HB := hs w hb; (try clear hb)))
              go_roundg kj32
              case measure => have := HK1.out; have := HJ5.out; have := HJ32.out; omega
              case rel => exact ⟨(wrap64 (x11_1 + 1)), ar, H', ⟨by have := HK1.out; have := HJ5.out; have := HJ32.out; omega⟩, ⟨(zb w)⟩⟩
             ·rw [if_neg c44] at H
              have c44b0 : (t378 == 0) = false := beq_eq_false_iff_ne.mpr c44
              have c44b1 : (t378 != 0) = true := bne_iff_ne.mpr c44
              obtain rfl := Option.some.inj H
              obtain ⟨hcz47_0, hcz47_1, hcz47_2, hcz47_3, hcz47_4, hfz47_0, hfz47_1, hfz47_2, hfz47_3, hfz47_4⟩ := cz5 BK372
              go_wp2_with (first | ((with_reducible refine gC 46 rfl ?_); refine gl_ 51 Tryz.func46 #[.agg #[.int .i64 ((rd_T66 l0 x11_1).f3.f0), .int .i64 ((rd_T66 l0 x11_1).f3.f1)], .bool false] ?_; (with_reducible refine (order_QuantityFault.calls kj32 ((rd_T66 l0 x11_1).f3.f0) ((rd_T66 l0 x11_1).f3.f1) false t378 _ A43.out).mono ?_); rintro e w48 ⟨rfl, hb⟩; refine ⟨_, rfl, ?_⟩; replace BK372 := bb BK372 hb; replace HB := hs w hb; (try clear hb)))
              go_ret
              exact ⟨by first | rfl | (simp [errW_none, errW_some] <;> rfl) | (simp [*, errW_none, errW_some] <;> rfl), (zb w)⟩
      ·rw [if_neg c5] at H
       exact absurd H (by simp)
     ·rw [if_neg c4] at H
      exact absurd H (by simp)
    ·rw [if_neg c3] at H
     have c3b0 : decide (x11_1 < (l0.length : Int)) = false := decide_eq_false c3
     clear c3
     obtain rfl := Option.some.inj H
     go_wp2
     go_ret
     exact ⟨by first | rfl | (simp [errW_none, errW_some] <;> rfl) | (simp [*, errW_none, errW_some] <;> rfl), (zb w)⟩

end Go.Proofs.YthgefhnolmloiaaGreatDoor.P3
