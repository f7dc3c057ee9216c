-- Made by a program of this session out of the translation (wip/pp.py): functions, contracts.
import Derived.Test.YthgefhnolmloiaaGreatDoorP3x0
import Derived.Test.YthgefhnolmloiaaGreatDoorP3x1
import Derived.Test.YthgefhnolmloiaaGreatDoorP3x6
import Derived.Test.YthgefhnolmloiaaGreatDoorP3x7
namespace Go.Proofs.YthgefhnolmloiaaGreatDoor.P3
open Go.RowKit Go.Proofs.YthgefhnolmloiaaGreatDoorW.PrintWords Go.Proofs.YthgefhnolmloiaaGreatDoorW.PrintLast Go.Proofs.YthgefhnolmloiaaGreatDoorW.PrintMore
attribute [local go_sem] max2_int min2_int max_two min_two max_three min_three max_four min_four   -- for this text's walks alone
set_option linter.unusedVariables false
set_option linter.unusedSimpArgs false

/-! ### interchangeref10_checkContents: function 21 -/
mutual
def interchangeref10_checkContents.l0 : Nat → List (S66) → List (S66) → Int → Int → Option (Int)
 | 0, _, _, _, _ => none
 | k + 1, x0, x8, x9, x10 => if x10 < x9 then (if 0 ≤ x10 then (if x10 < (x8.length : Int) then ((interchangeref1_IsName.f k ((rd_T66 x8 x10).f0)).bind fun t259 => (if t259 = true then ((interchangeref1_IsName.f k ((rd_T66 x8 x10).f1)).bind fun t260 => (if t260 = true then (if ((rd_T66 x8 x10).f2).toList = ([] : List UInt8) then (interchangeref10_checkContents.j1 k x0 x10 x8 x9 x10 false ((rd_T66 x8 x10).f0) ((rd_T66 x8 x10).f1) ((rd_T66 x8 x10).f2) ((rd_T66 x8 x10).f3.f0) ((rd_T66 x8 x10).f3.f1)) else ((interchangeref1_IsName.f k ((rd_T66 x8 x10).f2)).bind fun t261 => (interchangeref10_checkContents.j1 k x0 x10 x8 x9 x10 (!t261) ((rd_T66 x8 x10).f0) ((rd_T66 x8 x10).f1) ((rd_T66 x8 x10).f2) ((rd_T66 x8 x10).f3.f0) ((rd_T66 x8 x10).f3.f1)))) else (interchangeref10_checkContents.j1 k x0 x10 x8 x9 x10 true ((rd_T66 x8 x10).f0) ((rd_T66 x8 x10).f1) ((rd_T66 x8 x10).f2) ((rd_T66 x8 x10).f3.f0) ((rd_T66 x8 x10).f3.f1)))) else (interchangeref10_checkContents.j1 k x0 x10 x8 x9 x10 true ((rd_T66 x8 x10).f0) ((rd_T66 x8 x10).f1) ((rd_T66 x8 x10).f2) ((rd_T66 x8 x10).f3.f0) ((rd_T66 x8 x10).f3.f1)))) else (none)) else (none)) else (some 0)
def interchangeref10_checkContents.j1 : Nat → List (S66) → Int → List (S66) → Int → Int → Bool → ByteArray → ByteArray → ByteArray → Int → Int → Option (Int)
 | 0, _, _, _, _, _, _, _, _, _, _, _ => none
 | k + 1, x0, x3, x8, x9, x10, x15, x259000, x259001, x259002, x259003, x259004 => if x15 = true then (some 5) else (if x3 > 0 then (if 0 ≤ (wrap64 (x3 - 1)) then (if (wrap64 (x3 - 1)) < (x0.length : Int) then ((interchangeref10_contentOrder.f k ((rd_T66 x0 (wrap64 (x3 - 1))).f0) ((rd_T66 x0 (wrap64 (x3 - 1))).f1) ((rd_T66 x0 (wrap64 (x3 - 1))).f2) ((rd_T66 x0 (wrap64 (x3 - 1))).f3.f0) ((rd_T66 x0 (wrap64 (x3 - 1))).f3.f1) x259000 x259001 x259002 x259003 x259004).bind fun t263 => (interchangeref10_checkContents.j2 k x0 x8 x9 x10 (decide (t263 ≥ 0)) x259000 x259001 x259002 x259003 x259004)) else (none)) else (none)) else (interchangeref10_checkContents.j2 k x0 x8 x9 x10 false x259000 x259001 x259002 x259003 x259004))
def interchangeref10_checkContents.j2 : Nat → List (S66) → List (S66) → Int → Int → Bool → ByteArray → ByteArray → ByteArray → Int → Int → Option (Int)
 | 0, _, _, _, _, _, _, _, _, _, _ => none
 | k + 1, x0, x8, x9, x10, x37, x259000, x259001, x259002, x259003, x259004 => if x37 = true then (some 8) else ((interchangeref10_isMass.f k x259003 x259004 true).bind fun t264 => (if t264 = true then (interchangeref10_checkContents.l0 k x0 x8 x9 (wrap64 (x10 + 1))) else (some 1)))
end
def interchangeref10_checkContents.f (k : Nat) (l0 : List (S66)) : Option (Int) := if (l0.length : Int) > 100 then (some 2) else (interchangeref10_checkContents.l0 k l0 l0 (l0.length : Int) 0)
theorem interchangeref10_checkContents.mono_l : ∀ k, (∀ y0 y1 y2 y3, LeO (interchangeref10_checkContents.l0 k y0 y1 y2 y3) (interchangeref10_checkContents.l0 (k + 1) y0 y1 y2 y3)) ∧ (∀ y0 y1 y2 y3 y4 y5 y6 y7 y8 y9 y10, LeO (interchangeref10_checkContents.j1 k y0 y1 y2 y3 y4 y5 y6 y7 y8 y9 y10) (interchangeref10_checkContents.j1 (k + 1) y0 y1 y2 y3 y4 y5 y6 y7 y8 y9 y10)) ∧ (∀ y0 y1 y2 y3 y4 y5 y6 y7 y8 y9, LeO (interchangeref10_checkContents.j2 k y0 y1 y2 y3 y4 y5 y6 y7 y8 y9) (interchangeref10_checkContents.j2 (k + 1) y0 y1 y2 y3 y4 y5 y6 y7 y8 y9))
 | 0 => ⟨fun _ _ _ _ r h => by simp [interchangeref10_checkContents.l0] at h, fun _ _ _ _ _ _ _ _ _ _ _ r h => by simp [interchangeref10_checkContents.j1] at h, fun _ _ _ _ _ _ _ _ _ _ r h => by simp [interchangeref10_checkContents.j2] at h⟩
 | k + 1 => by
  obtain ⟨ih0, ih1, ih2⟩ := interchangeref10_checkContents.mono_l k
  refine ⟨?_, ?_, ?_⟩
  ·intro y0 y1 y2 y3
   unfold interchangeref10_checkContents.l0
   repeat' first | with_reducible first | exact ih0 _ _ _ _ | exact ih1 _ _ _ _ _ _ _ _ _ _ _ | exact ih2 _ _ _ _ _ _ _ _ _ _ | exact interchangeref10_contentOrder.mono _ _ _ _ _ _ _ _ _ _ _ | exact interchangeref10_isMass.mono _ _ _ _ | exact interchangeref1_IsName.mono _ _ | exact lr _ | exact ln _ | refine li ?_ ?_ | refine lb ?_ fun _ => ?_ | exact ih0 _ _ _ _ | exact ih1 _ _ _ _ _ _ _ _ _ _ _ | exact ih2 _ _ _ _ _ _ _ _ _ _ | exact interchangeref10_contentOrder.mono _ _ _ _ _ _ _ _ _ _ _ | exact interchangeref10_isMass.mono _ _ _ _ | exact interchangeref1_IsName.mono _ _ | exact ln _ | refine li ?_ ?_ | refine lb ?_ fun _ => ?_
  ·intro y0 y1 y2 y3 y4 y5 y6 y7 y8 y9 y10
   unfold interchangeref10_checkContents.j1
   repeat' first | with_reducible first | exact ih0 _ _ _ _ | exact ih1 _ _ _ _ _ _ _ _ _ _ _ | exact ih2 _ _ _ _ _ _ _ _ _ _ | exact interchangeref10_contentOrder.mono _ _ _ _ _ _ _ _ _ _ _ | exact interchangeref10_isMass.mono _ _ _ _ | exact interchangeref1_IsName.mono _ _ | exact lr _ | exact ln _ | refine li ?_ ?_ | refine lb ?_ fun _ => ?_ | exact ih0 _ _ _ _ | exact ih1 _ _ _ _ _ _ _ _ _ _ _ | exact ih2 _ _ _ _ _ _ _ _ _ _ | exact interchangeref10_contentOrder.mono _ _ _ _ _ _ _ _ _ _ _ | exact interchangeref10_isMass.mono _ _ _ _ | exact interchangeref1_IsName.mono _ _ | exact ln _ | refine li ?_ ?_ | refine lb ?_ fun _ => ?_
  ·intro y0 y1 y2 y3 y4 y5 y6 y7 y8 y9
   unfold interchangeref10_checkContents.j2
   repeat' first | with_reducible first | exact ih0 _ _ _ _ | exact ih1 _ _ _ _ _ _ _ _ _ _ _ | exact ih2 _ _ _ _ _ _ _ _ _ _ | exact interchangeref10_contentOrder.mono _ _ _ _ _ _ _ _ _ _ _ | exact interchangeref10_isMass.mono _ _ _ _ | exact interchangeref1_IsName.mono _ _ | exact lr _ | exact ln _ | refine li ?_ ?_ | refine lb ?_ fun _ => ?_ | exact ih0 _ _ _ _ | exact ih1 _ _ _ _ _ _ _ _ _ _ _ | exact ih2 _ _ _ _ _ _ _ _ _ _ | exact interchangeref10_contentOrder.mono _ _ _ _ _ _ _ _ _ _ _ | exact interchangeref10_isMass.mono _ _ _ _ | exact interchangeref1_IsName.mono _ _ | exact ln _ | refine li ?_ ?_ | refine lb ?_ fun _ => ?_
theorem interchangeref10_checkContents.mono : ∀ a0 k, LeO (interchangeref10_checkContents.f k a0) (interchangeref10_checkContents.f (k + 1) a0) := by
 intro a0 k
 obtain ⟨ih0, ih1, ih2⟩ := interchangeref10_checkContents.mono_l k
 unfold interchangeref10_checkContents.f
 repeat' first | with_reducible first | exact ih0 _ _ _ _ | exact ih1 _ _ _ _ _ _ _ _ _ _ _ | exact ih2 _ _ _ _ _ _ _ _ _ _ | exact interchangeref10_contentOrder.mono _ _ _ _ _ _ _ _ _ _ _ | exact interchangeref10_isMass.mono _ _ _ _ | exact interchangeref1_IsName.mono _ _ | exact lr _ | exact ln _ | refine li ?_ ?_ | refine lb ?_ fun _ => ?_ | exact ih0 _ _ _ _ | exact ih1 _ _ _ _ _ _ _ _ _ _ _ | exact ih2 _ _ _ _ _ _ _ _ _ _ | exact interchangeref10_contentOrder.mono _ _ _ _ _ _ _ _ _ _ _ | exact interchangeref10_isMass.mono _ _ _ _ | exact interchangeref1_IsName.mono _ _ | exact ln _ | refine li ?_ ?_ | refine lb ?_ fun _ => ?_
def interchangeref10_checkContents.T8 : Bool × List (List Nat × List Nat) := (true, [([], []), ([0], [0]), ([1], [1]), ([2], [2]), ([2], [2]), ([4, 2], [2, 4]), ([3, 5, 2], [2, 3, 5]), ([6, 2], [2, 6]), ([2], [2]), ([7, 8, 2, 2], [2, 7, 8]), ([9, 2], [2, 9]), ([2, 10], [2, 10]), ([11, 9], [11])])
def interchangeref10_checkContents.B8 : List Nat := [0, 1, 3, 7, 7, 23, 63, 127, 7, 511, 1023, 2047, 4095]
theorem interchangeref10_checkContents.tab8 : rtab .any (opsOf Tryz.f21 8) = interchangeref10_checkContents.T8 := by kernel_rfl
theorem interchangeref10_checkContents.bits8 : waitsOk interchangeref10_checkContents.T8.2 interchangeref10_checkContents.B8 = true := by kernel_rfl
set_option maxHeartbeats 8000000 in
set_option maxRecDepth 100000 in
theorem interchangeref10_checkContents.calls (k : Nat) (A0 : Option Addr) (c0 : Nat) (l0 : List (S66)) (r : Int) (w : World) (hr0 : Kd.C k66 w A0 l0.length l0) (hc0 : l0.length ≤ c0) (h : interchangeref10_checkContents.f k l0 = some r) :
  Calls Tryz.prog 21 #[.slice A0 l0.length c0] w fun e w' => e = .returned (.int .i64 r) ∧ Below w.heap.size w w' := by
 have hu66 := Tryz.underlying66
 have hu39 := Tryz.underlying39
 have HR0 := Aside0.mk hr0
 have HC0 := Aside0.mk hc0
 clear hr0 hc0
 have HB := Aside0.mk (Below.refl w.heap.size w)
 have H := h
 unfold interchangeref10_checkContents.f at H
 clear h
 by_cases c2 : (l0.length : Int) > 100
 ·rw [if_pos c2] at H
  have c2b0 : decide (100 < (l0.length : Int)) = true := decide_eq_true c2
  have c2b1 : decide (100 < l0.length) = true := decide_eq_true (by omega)
  clear c2
  obtain rfl := Option.some.inj H
  go_enter Tryz.func21, Tryz.ntmps21
  go_wp2
  go_ret
  exact ⟨by first | rfl | (simp [errW_none, errW_some] <;> rfl) | (simp [*, errW_none, errW_some] <;> rfl), (zb w)⟩
 ·rw [if_neg c2] at H
  have c2b0 : decide (100 < (l0.length : Int)) = false := decide_eq_false c2
  have c2b1 : decide (100 < l0.length) = false := decide_eq_false (by omega)
  clear c2
  have H' := Aside0.mk H
  clear H
  go_enter Tryz.func21, Tryz.ntmps21
  go_wp2
  try simp only [sq]
  go_loopg [10] k (fun kq v10 w' => ∃ (x10_1 : Int), v10 = .int .i64 x10_1 ∧ Aside0 (interchangeref10_checkContents.l0 kq l0 l0 (l0.length : Int) x10_1 = some r) ∧ Aside0 (kq ≤ k) ∧ Aside0 (Below w.heap.size w w'))
  case atStart => exact ⟨(0), ar, H', ⟨Nat.le_refl _⟩, ⟨(zb w)⟩⟩
  case round =>
   clear H'
   try clear c2
   try clear c2b0
   try clear c2b1
   try clear p2
   obtain ⟨x10_1, rfl, HA, HK1, HB⟩ := hrel
   cases gk with
   | zero => exact absurd HA.out (by simp [interchangeref10_checkContents.l0])
   | succ k1 =>
    have H := HA.out
    clear HA
    simp only [interchangeref10_checkContents.l0] at H
    by_cases c3 : x10_1 < (l0.length : Int)
    ·rw [if_pos c3] at H
     have c3b0 : decide (x10_1 < (l0.length : Int)) = true := decide_eq_true c3
     clear c3
     by_cases c4 : 0 ≤ x10_1
     ·rw [if_pos c4] at H
      have c4b0 : decide (0 ≤ x10_1) = true := decide_eq_true c4
      clear c4
      by_cases c5 : x10_1 < (l0.length : Int)
      ·rw [if_pos c5] at H
       have c5b0 : decide (x10_1 < (l0.length : Int)) = true := decide_eq_true c5
       clear c5
       have HC6 := Aside0.mk H
       clear H
       have p257 : 0 ≤ (x10_1 : Int) := of_decide_eq_true (by assumption)
       have q257 : x10_1 < (l0.length : Int) := of_decide_eq_true (by assumption)
       obtain ⟨ad257, e257, hx257_0, hx257_1, hx257_2, hx257_3, hx257_4⟩ := at_T66 HR0.out x10_1 p257 q257
       cases e257
       replace hx257_0 := hz HB hx257_0
       replace hx257_1 := hz HB hx257_1
       replace hx257_2 := hz HB hx257_2
       replace hx257_3 := hz HB hx257_3
       replace hx257_4 := hz HB hx257_4
       replace p257 := eq_true p257
       replace q257 := eq_true q257
       go_upto_region 6 with (first | ((with_reducible refine gD 4 rfl ?_); refine bx w 4 #[.string (⟨#[]⟩ : ByteArray), .string (⟨#[]⟩ : ByteArray), .string (⟨#[]⟩ : ByteArray), .int .i64 0, .int .i64 0] 66 ?_; intro gb258 hg w7 hb BK258 GW258 GE258; clear HB; intro HB; clear hb hg; obtain ⟨hcz8_0, hcz8_1, hcz8_2, hcz8_3, hcz8_4, hfz8_0, hfz8_1, hfz8_2, hfz8_3, hfz8_4⟩ := cz5 BK258))
       (try simp only [sq])
       go_cut [15] (fun v15 wc => ∃ (kq : Nat) (x15_5 : Bool), v15 = .bool x15_5 ∧ Aside0 (interchangeref10_checkContents.j1 kq l0 x10_1 l0 (l0.length : Int) x10_1 x15_5 ((rd_T66 l0 x10_1).f0) ((rd_T66 l0 x10_1).f1) ((rd_T66 l0 x10_1).f2) ((rd_T66 l0 x10_1).f3.f0) ((rd_T66 l0 x10_1).f3.f1) = some r) ∧ Aside0 (kq ≤ k1) ∧ Aside0 (wc.heap[gb258]? = some (.cells #[.string ((rd_T66 l0 x10_1).f0), .string ((rd_T66 l0 x10_1).f1), .string ((rd_T66 l0 x10_1).f2), .int .i64 ((rd_T66 l0 x10_1).f3.f0), .int .i64 ((rd_T66 l0 x10_1).f3.f1)] 66 (0, 0))) ∧ Aside0 (Below w.heap.size w wc))
       case first =>
        have H := HC6.out
        clear HC6
        replace H := Option.bind_eq_some_iff.mp H
        obtain ⟨t259, A90, H⟩ := H
        try dsimp only at H
        have A9 := Aside0.mk A90
        clear A90
        by_cases c10 : t259 = true
        ·subst c10
         have H1 : ((interchangeref1_IsName.f k1 ((rd_T66 l0 x10_1).f1)).bind fun t260 => (if t260 = true then (if ((rd_T66 l0 x10_1).f2).toList = ([] : List UInt8) then (interchangeref10_checkContents.j1 k1 l0 x10_1 l0 (l0.length : Int) x10_1 false ((rd_T66 l0 x10_1).f0) ((rd_T66 l0 x10_1).f1) ((rd_T66 l0 x10_1).f2) ((rd_T66 l0 x10_1).f3.f0) ((rd_T66 l0 x10_1).f3.f1)) else ((interchangeref1_IsName.f k1 ((rd_T66 l0 x10_1).f2)).bind fun t261 => (interchangeref10_checkContents.j1 k1 l0 x10_1 l0 (l0.length : Int) x10_1 (!t261) ((rd_T66 l0 x10_1).f0) ((rd_T66 l0 x10_1).f1) ((rd_T66 l0 x10_1).f2) ((rd_T66 l0 x10_1).f3.f0) ((rd_T66 l0 x10_1).f3.f1)))) else (interchangeref10_checkContents.j1 k1 l0 x10_1 l0 (l0.length : Int) x10_1 true ((rd_T66 l0 x10_1).f0) ((rd_T66 l0 x10_1).f1) ((rd_T66 l0 x10_1).f2) ((rd_T66 l0 x10_1).f3.f0) ((rd_T66 l0 x10_1).f3.f1)))) = some r := by rw [if_pos rfl] at H; exact H
         clear H
         have H := H1
         clear H1
         replace H := Option.bind_eq_some_iff.mp H
         obtain ⟨t260, A110, H⟩ := H
         try dsimp only at H
         have A11 := Aside0.mk A110
         clear A110
         by_cases c12 : t260 = true
         ·subst c12
          have H1 : (if ((rd_T66 l0 x10_1).f2).toList = ([] : List UInt8) then (interchangeref10_checkContents.j1 k1 l0 x10_1 l0 (l0.length : Int) x10_1 false ((rd_T66 l0 x10_1).f0) ((rd_T66 l0 x10_1).f1) ((rd_T66 l0 x10_1).f2) ((rd_T66 l0 x10_1).f3.f0) ((rd_T66 l0 x10_1).f3.f1)) else ((interchangeref1_IsName.f k1 ((rd_T66 l0 x10_1).f2)).bind fun t261 => (interchangeref10_checkContents.j1 k1 l0 x10_1 l0 (l0.length : Int) x10_1 (!t261) ((rd_T66 l0 x10_1).f0) ((rd_T66 l0 x10_1).f1) ((rd_T66 l0 x10_1).f2) ((rd_T66 l0 x10_1).f3.f0) ((rd_T66 l0 x10_1).f3.f1)))) = some r := by rw [if_pos rfl] at H; exact H
          clear H
          have H := H1
          clear H1
          by_cases c13 : ((rd_T66 l0 x10_1).f2).toList = ([] : List UInt8)
          ·rw [if_pos c13] at H
           have c13b0 : (((rd_T66 l0 x10_1).f2).toList == ([] : List UInt8)) = true := beq_iff_eq.mpr c13
           have c13b1 : (((rd_T66 l0 x10_1).f2).toList != ([] : List UInt8)) = false := bne_eq_false_iff_eq.mpr c13
           clear c13
           (first | rw [c13b0] | (simp only [i64_w, i32_w]; rw [c13b0]) | skip)
           have H' := Aside0.mk H
           clear H
           obtain ⟨hcz14_0, hcz14_1, hcz14_2, hcz14_3, hcz14_4, hfz14_0, hfz14_1, hfz14_2, hfz14_3, hfz14_4⟩ := cz5 BK258
           go_wp2_with (first | ((with_reducible refine gC 17 rfl ?_); refine gl_ 18 Tryz.func17 #[.string ((rd_T66 l0 x10_1).f0)] ?_; (with_reducible refine (interchangeref1_IsName.calls k1 ((rd_T66 l0 x10_1).f0) true _ A9.out).mono ?_); rintro e w' ⟨rfl, ⟨nd, rfl⟩⟩; refine ⟨_, rfl, ?_⟩) | (go_at_call 17; (with_reducible refine (interchangeref1_IsName.calls k1 ((rd_T66 l0 x10_1).f1) true _ A11.out).mono ?_); rintro e w' ⟨rfl, ⟨nd, rfl⟩⟩))
           go_meet
           case rel => exact ⟨_, (false), ar, H', ⟨by have := HK1.out; first | omega | exact Nat.le_refl _⟩, ⟨by (with_reducible repeat (first | refine blk_drewN ?_ _ | refine blk_drew ?_ | refine blk_alloc ?_ _)); refine blk_put (cs := #[.string ((rd_T66 l0 x10_1).f0), .string ((rd_T66 l0 x10_1).f1), .string ((rd_T66 l0 x10_1).f2), .int .i64 ((rd_T66 l0 x10_1).f3.f0), .int .i64 0]) ?_ 4 _ rfl; (with_reducible repeat (first | refine blk_drewN ?_ _ | refine blk_drew ?_ | refine blk_alloc ?_ _)); refine blk_put (cs := #[.string ((rd_T66 l0 x10_1).f0), .string ((rd_T66 l0 x10_1).f1), .string ((rd_T66 l0 x10_1).f2), .int .i64 0, .int .i64 0]) ?_ 3 _ rfl; (with_reducible repeat (first | refine blk_drewN ?_ _ | refine blk_drew ?_ | refine blk_alloc ?_ _)); refine blk_put (cs := #[.string ((rd_T66 l0 x10_1).f0), .string ((rd_T66 l0 x10_1).f1), .string (⟨#[]⟩ : ByteArray), .int .i64 0, .int .i64 0]) ?_ 2 _ rfl; (with_reducible repeat (first | refine blk_drewN ?_ _ | refine blk_drew ?_ | refine blk_alloc ?_ _)); refine blk_put (cs := #[.string ((rd_T66 l0 x10_1).f0), .string (⟨#[]⟩ : ByteArray), .string (⟨#[]⟩ : ByteArray), .int .i64 0, .int .i64 0]) ?_ 1 _ rfl; (with_reducible repeat (first | refine blk_drewN ?_ _ | refine blk_drew ?_ | refine blk_alloc ?_ _)); refine blk_put (cs := #[.string (⟨#[]⟩ : ByteArray), .string (⟨#[]⟩ : ByteArray), .string (⟨#[]⟩ : ByteArray), .int .i64 0, .int .i64 0]) ?_ 0 _ rfl; exact zk BK258⟩, ⟨(zb w)⟩⟩
          ·rw [if_neg c13] at H
           have c13b0 : (((rd_T66 l0 x10_1).f2).toList == ([] : List UInt8)) = false := beq_eq_false_iff_ne.mpr c13
           have c13b1 : (((rd_T66 l0 x10_1).f2).toList != ([] : List UInt8)) = true := bne_iff_ne.mpr c13
           (first | rw [c13b0] | (simp only [i64_w, i32_w]; rw [c13b0]) | skip)
           replace H := Option.bind_eq_some_iff.mp H
           obtain ⟨t261, A150, H⟩ := H
           try dsimp only at H
           have A15 := Aside0.mk A150
           clear A150
           have H' := Aside0.mk H
           clear H
           obtain ⟨hcz16_0, hcz16_1, hcz16_2, hcz16_3, hcz16_4, hfz16_0, hfz16_1, hfz16_2, hfz16_3, hfz16_4⟩ := cz5 BK258
           go_wp2_with (first | ((with_reducible refine gC 17 rfl ?_); refine gl_ 18 Tryz.func17 #[.string ((rd_T66 l0 x10_1).f0)] ?_; (with_reducible refine (interchangeref1_IsName.calls k1 ((rd_T66 l0 x10_1).f0) true _ A9.out).mono ?_); rintro e w' ⟨rfl, ⟨nd, rfl⟩⟩; refine ⟨_, rfl, ?_⟩) | (go_at_call 17; (with_reducible refine (interchangeref1_IsName.calls k1 ((rd_T66 l0 x10_1).f1) true _ A11.out).mono ?_); rintro e w' ⟨rfl, ⟨nd, rfl⟩⟩) | (go_at_call 17; (with_reducible refine (interchangeref1_IsName.calls k1 ((rd_T66 l0 x10_1).f2) t261 _ A15.out).mono ?_); rintro e w' ⟨rfl, ⟨nd, rfl⟩⟩))
           go_meet
           case rel => exact ⟨_, (!t261), ar, H', ⟨by have := HK1.out; first | omega | exact Nat.le_refl _⟩, ⟨by (with_reducible repeat (first | refine blk_drewN ?_ _ | refine blk_drew ?_ | refine blk_alloc ?_ _)); refine blk_put (cs := #[.string ((rd_T66 l0 x10_1).f0), .string ((rd_T66 l0 x10_1).f1), .string ((rd_T66 l0 x10_1).f2), .int .i64 ((rd_T66 l0 x10_1).f3.f0), .int .i64 0]) ?_ 4 _ rfl; (with_reducible repeat (first | refine blk_drewN ?_ _ | refine blk_drew ?_ | refine blk_alloc ?_ _)); refine blk_put (cs := #[.string ((rd_T66 l0 x10_1).f0), .string ((rd_T66 l0 x10_1).f1), .string ((rd_T66 l0 x10_1).f2), .int .i64 0, .int .i64 0]) ?_ 3 _ rfl; (with_reducible repeat (first | refine blk_drewN ?_ _ | refine blk_drew ?_ | refine blk_alloc ?_ _)); refine blk_put (cs := #[.string ((rd_T66 l0 x10_1).f0), .string ((rd_T66 l0 x10_1).f1), .string (⟨#[]⟩ : ByteArray), .int .i64 0, .int .i64 0]) ?_ 2 _ rfl; (with_reducible repeat (first | refine blk_drewN ?_ _ | refine blk_drew ?_ | refine blk_alloc ?_ _)); refine blk_put (cs := #[.string ((rd_T66 l0 x10_1).f0), .string (⟨#[]⟩ : ByteArray), .string (⟨#[]⟩ : ByteArray), .int .i64 0, .int .i64 0]) ?_ 1 _ rfl; (with_reducible repeat (first | refine blk_drewN ?_ _ | refine blk_drew ?_ | refine blk_alloc ?_ _)); refine blk_put (cs := #[.string (⟨#[]⟩ : ByteArray), .string (⟨#[]⟩ : ByteArray), .string (⟨#[]⟩ : ByteArray), .int .i64 0, .int .i64 0]) ?_ 0 _ rfl; exact zk BK258⟩, ⟨(zb w)⟩⟩
         ·replace c12 := Bool.eq_false_iff.mpr c12
          subst c12
          have H1 : (interchangeref10_checkContents.j1 k1 l0 x10_1 l0 (l0.length : Int) x10_1 true ((rd_T66 l0 x10_1).f0) ((rd_T66 l0 x10_1).f1) ((rd_T66 l0 x10_1).f2) ((rd_T66 l0 x10_1).f3.f0) ((rd_T66 l0 x10_1).f3.f1)) = some r := by rw [if_neg (show ¬ (false = true) by decide)] at H; exact H
          clear H
          have H := H1
          clear H1
          have H' := Aside0.mk H
          clear H
          obtain ⟨hcz17_0, hcz17_1, hcz17_2, hcz17_3, hcz17_4, hfz17_0, hfz17_1, hfz17_2, hfz17_3, hfz17_4⟩ := cz5 BK258
          go_wp2_with (first | ((with_reducible refine gC 17 rfl ?_); refine gl_ 18 Tryz.func17 #[.string ((rd_T66 l0 x10_1).f0)] ?_; (with_reducible refine (interchangeref1_IsName.calls k1 ((rd_T66 l0 x10_1).f0) true _ A9.out).mono ?_); rintro e w' ⟨rfl, ⟨nd, rfl⟩⟩; refine ⟨_, rfl, ?_⟩) | (go_at_call 17; (with_reducible refine (interchangeref1_IsName.calls k1 ((rd_T66 l0 x10_1).f1) false _ A11.out).mono ?_); rintro e w' ⟨rfl, ⟨nd, rfl⟩⟩))
          go_meet
          case rel => exact ⟨_, (true), ar, H', ⟨by have := HK1.out; first | omega | exact Nat.le_refl _⟩, ⟨by (with_reducible repeat (first | refine blk_drewN ?_ _ | refine blk_drew ?_ | refine blk_alloc ?_ _)); refine blk_put (cs := #[.string ((rd_T66 l0 x10_1).f0), .string ((rd_T66 l0 x10_1).f1), .string ((rd_T66 l0 x10_1).f2), .int .i64 ((rd_T66 l0 x10_1).f3.f0), .int .i64 0]) ?_ 4 _ rfl; (with_reducible repeat (first | refine blk_drewN ?_ _ | refine blk_drew ?_ | refine blk_alloc ?_ _)); refine blk_put (cs := #[.string ((rd_T66 l0 x10_1).f0), .string ((rd_T66 l0 x10_1).f1), .string ((rd_T66 l0 x10_1).f2), .int .i64 0, .int .i64 0]) ?_ 3 _ rfl; (with_reducible repeat (first | refine blk_drewN ?_ _ | refine blk_drew ?_ | refine blk_alloc ?_ _)); refine blk_put (cs := #[.string ((rd_T66 l0 x10_1).f0), .string ((rd_T66 l0 x10_1).f1), .string (⟨#[]⟩ : ByteArray), .int .i64 0, .int .i64 0]) ?_ 2 _ rfl; (with_reducible repeat (first | refine blk_drewN ?_ _ | refine blk_drew ?_ | refine blk_alloc ?_ _)); refine blk_put (cs := #[.string ((rd_T66 l0 x10_1).f0), .string (⟨#[]⟩ : ByteArray), .string (⟨#[]⟩ : ByteArray), .int .i64 0, .int .i64 0]) ?_ 1 _ rfl; (with_reducible repeat (first | refine blk_drewN ?_ _ | refine blk_drew ?_ | refine blk_alloc ?_ _)); refine blk_put (cs := #[.string (⟨#[]⟩ : ByteArray), .string (⟨#[]⟩ : ByteArray), .string (⟨#[]⟩ : ByteArray), .int .i64 0, .int .i64 0]) ?_ 0 _ rfl; exact zk BK258⟩, ⟨(zb w)⟩⟩
        ·replace c10 := Bool.eq_false_iff.mpr c10
         subst c10
         have H1 : (interchangeref10_checkContents.j1 k1 l0 x10_1 l0 (l0.length : Int) x10_1 true ((rd_T66 l0 x10_1).f0) ((rd_T66 l0 x10_1).f1) ((rd_T66 l0 x10_1).f2) ((rd_T66 l0 x10_1).f3.f0) ((rd_T66 l0 x10_1).f3.f1)) = some r := by rw [if_neg (show ¬ (false = true) by decide)] at H; exact H
         clear H
         have H := H1
         clear H1
         have H' := Aside0.mk H
         clear H
         obtain ⟨hcz18_0, hcz18_1, hcz18_2, hcz18_3, hcz18_4, hfz18_0, hfz18_1, hfz18_2, hfz18_3, hfz18_4⟩ := cz5 BK258
         go_wp2_with (first | ((with_reducible refine gC 17 rfl ?_); refine gl_ 18 Tryz.func17 #[.string ((rd_T66 l0 x10_1).f0)] ?_; (with_reducible refine (interchangeref1_IsName.calls k1 ((rd_T66 l0 x10_1).f0) false _ A9.out).mono ?_); rintro e w' ⟨rfl, ⟨nd, rfl⟩⟩; refine ⟨_, rfl, ?_⟩))
         go_meet
         case rel => exact ⟨_, (true), ar, H', ⟨by have := HK1.out; first | omega | exact Nat.le_refl _⟩, ⟨by (with_reducible repeat (first | refine blk_drewN ?_ _ | refine blk_drew ?_ | refine blk_alloc ?_ _)); refine blk_put (cs := #[.string ((rd_T66 l0 x10_1).f0), .string ((rd_T66 l0 x10_1).f1), .string ((rd_T66 l0 x10_1).f2), .int .i64 ((rd_T66 l0 x10_1).f3.f0), .int .i64 0]) ?_ 4 _ rfl; (with_reducible repeat (first | refine blk_drewN ?_ _ | refine blk_drew ?_ | refine blk_alloc ?_ _)); refine blk_put (cs := #[.string ((rd_T66 l0 x10_1).f0), .string ((rd_T66 l0 x10_1).f1), .string ((rd_T66 l0 x10_1).f2), .int .i64 0, .int .i64 0]) ?_ 3 _ rfl; (with_reducible repeat (first | refine blk_drewN ?_ _ | refine blk_drew ?_ | refine blk_alloc ?_ _)); refine blk_put (cs := #[.string ((rd_T66 l0 x10_1).f0), .string ((rd_T66 l0 x10_1).f1), .string (⟨#[]⟩ : ByteArray), .int .i64 0, .int .i64 0]) ?_ 2 _ rfl; (with_reducible repeat (first | refine blk_drewN ?_ _ | refine blk_drew ?_ | refine blk_alloc ?_ _)); refine blk_put (cs := #[.string ((rd_T66 l0 x10_1).f0), .string (⟨#[]⟩ : ByteArray), .string (⟨#[]⟩ : ByteArray), .int .i64 0, .int .i64 0]) ?_ 1 _ rfl; (with_reducible repeat (first | refine blk_drewN ?_ _ | refine blk_drew ?_ | refine blk_alloc ?_ _)); refine blk_put (cs := #[.string (⟨#[]⟩ : ByteArray), .string (⟨#[]⟩ : ByteArray), .string (⟨#[]⟩ : ByteArray), .int .i64 0, .int .i64 0]) ?_ 0 _ rfl; exact zk BK258⟩, ⟨(zb w)⟩⟩
       case rest =>
        clear HC6
        try clear c1
        try clear c2
        try clear c2b0
        try clear c2b1
        try clear p2
        try clear q2
        try clear hx2
        try clear c3
        try clear c3b0
        try clear c4
        try clear c4b0
        try clear c5
        try clear c5b0
        try clear c10
        try clear c12
        try clear c13
        try clear c13b0
        try clear c13b1
        try clear c17
        try clear hcz14_0 hcz14_1 hcz14_2 hcz14_3 hcz14_4
        try clear hcz16_0 hcz16_1 hcz16_2 hcz16_3 hcz16_4
        try clear hcz17_0 hcz17_1 hcz17_2 hcz17_3 hcz17_4
        try clear hcz18_0 hcz18_1 hcz18_2 hcz18_3 hcz18_4
        try clear hcz8_0 hcz8_1 hcz8_2 hcz8_3 hcz8_4
        try clear hfz14_0 hfz14_1 hfz14_2 hfz14_3 hfz14_4
        try clear hfz16_0 hfz16_1 hfz16_2 hfz16_3 hfz16_4
        try clear hfz17_0 hfz17_1 hfz17_2 hfz17_3 hfz17_4
        try clear hfz18_0 hfz18_1 hfz18_2 hfz18_3 hfz18_4
        try clear hfz8_0 hfz8_1 hfz8_2 hfz8_3 hfz8_4
        try clear hx257_0
        try clear hx257_1
        try clear hx257_2
        try clear hx257_3
        try clear hx257_4
        try clear p2
        try clear p257
        try clear q257
        obtain ⟨kq, x15_5, rfl, HA, HJ5, BK258, HB⟩ := hcut
        cases kq with
        | zero => exact absurd HA.out (by simp [interchangeref10_checkContents.j1])
        | succ kj5 =>
         have H := HA.out
         clear HA
         simp only [interchangeref10_checkContents.j1] at H
         by_cases c19 : x15_5 = true
         ·subst c19
          have H1 : (some 5) = some r := by rw [if_pos rfl] at H; exact H
          clear H
          have H := H1
          clear H1
          obtain rfl := Option.some.inj H
          go_wp2
          go_ret
          exact ⟨by first | rfl | (simp [errW_none, errW_some] <;> rfl) | (simp [*, errW_none, errW_some] <;> rfl), (zb w)⟩
         ·replace c19 := Bool.eq_false_iff.mpr c19
          subst c19
          have H1 : (if x10_1 > 0 then (if 0 ≤ (wrap64 (x10_1 - 1)) then (if (wrap64 (x10_1 - 1)) < (l0.length : Int) then ((interchangeref10_contentOrder.f kj5 ((rd_T66 l0 (wrap64 (x10_1 - 1))).f0) ((rd_T66 l0 (wrap64 (x10_1 - 1))).f1) ((rd_T66 l0 (wrap64 (x10_1 - 1))).f2) ((rd_T66 l0 (wrap64 (x10_1 - 1))).f3.f0) ((rd_T66 l0 (wrap64 (x10_1 - 1))).f3.f1) ((rd_T66 l0 x10_1).f0) ((rd_T66 l0 x10_1).f1) ((rd_T66 l0 x10_1).f2) ((rd_T66 l0 x10_1).f3.f0) ((rd_T66 l0 x10_1).f3.f1)).bind fun t263 => (interchangeref10_checkContents.j2 kj5 l0 l0 (l0.length : Int) x10_1 (decide (t263 ≥ 0)) ((rd_T66 l0 x10_1).f0) ((rd_T66 l0 x10_1).f1) ((rd_T66 l0 x10_1).f2) ((rd_T66 l0 x10_1).f3.f0) ((rd_T66 l0 x10_1).f3.f1))) else (none)) else (none)) else (interchangeref10_checkContents.j2 kj5 l0 l0 (l0.length : Int) x10_1 false ((rd_T66 l0 x10_1).f0) ((rd_T66 l0 x10_1).f1) ((rd_T66 l0 x10_1).f2) ((rd_T66 l0 x10_1).f3.f0) ((rd_T66 l0 x10_1).f3.f1))) = some r := by rw [if_neg (show ¬ (false = true) by decide)] at H; exact H
          clear H
          have H := H1
          clear H1
          have HC20 := Aside0.mk H
          clear H
          go_upto_region 8 with (fail)
          go_cut [37] (fun v37 wc => ∃ (kq : Nat) (x37_19 : Bool), v37 = .bool x37_19 ∧ Aside0 (interchangeref10_checkContents.j2 kq l0 l0 (l0.length : Int) x10_1 x37_19 ((rd_T66 l0 x10_1).f0) ((rd_T66 l0 x10_1).f1) ((rd_T66 l0 x10_1).f2) ((rd_T66 l0 x10_1).f3.f0) ((rd_T66 l0 x10_1).f3.f1) = some r) ∧ Aside0 (kq ≤ kj5) ∧ Aside0 (wc.heap[gb258]? = some (.cells #[.string ((rd_T66 l0 x10_1).f0), .string ((rd_T66 l0 x10_1).f1), .string ((rd_T66 l0 x10_1).f2), .int .i64 ((rd_T66 l0 x10_1).f3.f0), .int .i64 ((rd_T66 l0 x10_1).f3.f1)] 66 (0, 0))) ∧ Aside0 (Below w.heap.size w wc))
          case first =>
           have H := HC20.out
           clear HC20
           by_cases c21 : x10_1 > 0
           ·rw [if_pos c21] at H
            have c21b0 : decide (0 < x10_1) = true := decide_eq_true c21
            clear c21
            (first | rw [c21b0] | (simp only [i64_w, i32_w]; rw [c21b0]) | skip)
            obtain ⟨ji22, hji22⟩ : ∃ j_ : Int, (wrap64 (x10_1 - 1)) = j_ := ⟨_, rfl⟩
            replace H : (if 0 ≤ (ji22) then (if (ji22) < (l0.length : Int) then ((interchangeref10_contentOrder.f kj5 ((rd_T66 l0 (ji22)).f0) ((rd_T66 l0 (ji22)).f1) ((rd_T66 l0 (ji22)).f2) ((rd_T66 l0 (ji22)).f3.f0) ((rd_T66 l0 (ji22)).f3.f1) ((rd_T66 l0 x10_1).f0) ((rd_T66 l0 x10_1).f1) ((rd_T66 l0 x10_1).f2) ((rd_T66 l0 x10_1).f3.f0) ((rd_T66 l0 x10_1).f3.f1)).bind fun t263 => (interchangeref10_checkContents.j2 kj5 l0 l0 (l0.length : Int) x10_1 (decide (t263 ≥ 0)) ((rd_T66 l0 x10_1).f0) ((rd_T66 l0 x10_1).f1) ((rd_T66 l0 x10_1).f2) ((rd_T66 l0 x10_1).f3.f0) ((rd_T66 l0 x10_1).f3.f1))) else (none)) else (none)) = some r := by first | (rw [hji22] at H; exact H) | (simp only [hji22] at H ⊢; exact H)
            have hji22w : (IntKind.i64.wrap (x10_1 - 1)) = ji22 := (i64_w _).trans hji22
            by_cases c23 : 0 ≤ (ji22)
            ·rw [if_pos c23] at H
             have c23b0 : decide (0 ≤ (ji22)) = true := decide_eq_true c23
             clear c23
             by_cases c24 : (ji22) < (l0.length : Int)
             ·rw [if_pos c24] at H
              have c24b0 : decide ((ji22) < (l0.length : Int)) = true := decide_eq_true c24
              clear c24
              replace H := Option.bind_eq_some_iff.mp H
              obtain ⟨t263, A250, H⟩ := H
              try dsimp only at H
              have A25 := Aside0.mk A250
              clear A250
              have H' := Aside0.mk H
              clear H
              try go_wp2
              have n0_ := Aside0.mk (blk_drew BK258.out)
              have n1_ := Aside0.mk (below_drew1 HB.out)
              clear BK258
              clear HB
              have BK258 := n0_
              have HB := n1_
              clear n0_ n1_
              have p262 : 0 ≤ ((ji22) : Int) := of_decide_eq_true (by assumption)
              have q262 : (ji22) < (l0.length : Int) := of_decide_eq_true (by assumption)
              obtain ⟨ad262, e262, hx262_0, hx262_1, hx262_2, hx262_3, hx262_4⟩ := at_T66 HR0.out (ji22) p262 q262
              have hw262_4 := hx262_4
              have hw262_3 := hx262_3
              have hw262_2 := hx262_2
              have hw262_1 := hx262_1
              have hw262_0 := hx262_0
              obtain rfl : ad257 = ad262 := (by injection e262)
              replace hx262_0 := hz HB hx262_0
              replace hx262_1 := hz HB hx262_1
              replace hx262_2 := hz HB hx262_2
              replace hx262_3 := hz HB hx262_3
              replace hx262_4 := hz HB hx262_4
              replace p262 := eq_true p262
              replace q262 := eq_true q262
              refine start_ (n := 13) (S := fun w' => w'.cell? ⟨gb258, 0, none⟩ = some (.string ((rd_T66 l0 x10_1).f0)) ∧ w'.cell? ⟨gb258, 1, none⟩ = some (.string ((rd_T66 l0 x10_1).f1)) ∧ w'.cell? ⟨gb258, 2, none⟩ = some (.string ((rd_T66 l0 x10_1).f2)) ∧ w'.cell? ⟨gb258, 3, none⟩ = some (.int .i64 ((rd_T66 l0 x10_1).f3.f0)) ∧ w'.cell? ⟨gb258, 4, none⟩ = some (.int .i64 ((rd_T66 l0 x10_1).f3.f1)) ∧ w'.cell? (ad257.add (((ji22)).toNat * 5)) = some (.string ((rd_T66 l0 (ji22)).f0)) ∧ w'.cell? ⟨(ad257.add (((ji22)).toNat * 5)).block, (ad257.add (((ji22)).toNat * 5)).off + 1, none⟩ = some (.string ((rd_T66 l0 (ji22)).f1)) ∧ w'.cell? ⟨(ad257.add (((ji22)).toNat * 5)).block, (ad257.add (((ji22)).toNat * 5)).off + 2, none⟩ = some (.string ((rd_T66 l0 (ji22)).f2)) ∧ w'.cell? ⟨(ad257.add (((ji22)).toNat * 5)).block, (ad257.add (((ji22)).toNat * 5)).off + 3, none⟩ = some (.int .i64 ((rd_T66 l0 (ji22)).f3.f0)) ∧ w'.cell? ⟨(ad257.add (((ji22)).toNat * 5)).block, (ad257.add (((ji22)).toNat * 5)).off + 4, none⟩ = some (.int .i64 ((rd_T66 l0 (ji22)).f3.f1))) (ds := []) (bm 13 0) (by kernel_rfl) rfl rfl ⟨(blk_cell BK258.out 0).trans rfl, (blk_cell BK258.out 1).trans rfl, (blk_cell BK258.out 2).trans rfl, (blk_cell BK258.out 3).trans rfl, (blk_cell BK258.out 4).trans rfl, ((HB.out.cell (World.block_lt_of_cell? w _ hw262_0)).trans hw262_0), ((HB.out.cell (World.block_lt_of_cell? w _ hw262_1)).trans hw262_1), ((HB.out.cell (World.block_lt_of_cell? w _ hw262_2)).trans hw262_2), ((HB.out.cell (World.block_lt_of_cell? w _ hw262_3)).trans hw262_3), ((HB.out.cell (World.block_lt_of_cell? w _ hw262_4)).trans hw262_4)⟩ (fun hHeld => ?_); refine with_tabW interchangeref10_checkContents.tab8 interchangeref10_checkContents.bits8 (fun HT_ HW_ => ?_)
              generalize wc.drew = w26 at BK258 HB hx262_0 hx262_1 hx262_2 hx262_3 hx262_4 hHeld ⊢
              refine pu 0 38 (bm 13 1) HT_ ?_
              refine pu 1 39 (bm 13 3) HT_ ?_
              refine pu 2 40 (bm 13 7) HT_ ?_
              refine pu 3 41 (bm 13 15) HT_ ?_
              refine pu 4 42 (bm 13 31) HT_ ?_
              refine pu 5 43 (bm 13 63) HT_ ?_
              refine pu 6 44 (bm 13 127) HT_ ?_
              refine ta10 7 45 (bm 13 255) HT_ HW_ hHeld ?_
              refine ta10 8 46 (bm 13 511) HT_ HW_ hHeld ?_
              refine one_ (i := 9) (N := some 47) (bm 13 1023) rfl rfl (one_of HT_.out (by kernel_rfl)) (by decide) (fun K hK => ?_)
              refine goes_ Tryz.func41 (by kernel_rfl) rfl #[.agg #[.string ((rd_T66 l0 (ji22)).f0), .string ((rd_T66 l0 (ji22)).f1), .string ((rd_T66 l0 (ji22)).f2), .int .i64 ((rd_T66 l0 (ji22)).f3.f0), .int .i64 ((rd_T66 l0 (ji22)).f3.f1)], .agg #[.string ((rd_T66 l0 x10_1).f0), .string ((rd_T66 l0 x10_1).f1), .string ((rd_T66 l0 x10_1).f2), .int .i64 ((rd_T66 l0 x10_1).f3.f0), .int .i64 ((rd_T66 l0 x10_1).f3.f1)]] (by rfl) rfl rfl (by (try simp only [List.map_toArray, List.map_cons, List.map_nil]); first | done | (simp only [hji22]; rfl) | rfl | (simp only [List.length_drop, List.length_take]; rfl) | (simp only [R_ww1, R_ww2]; rfl)) ?_
              with_reducible refine (interchangeref10_contentOrder.calls kj5 ((rd_T66 l0 (ji22)).f0) ((rd_T66 l0 (ji22)).f1) ((rd_T66 l0 (ji22)).f2) ((rd_T66 l0 (ji22)).f3.f0) ((rd_T66 l0 (ji22)).f3.f1) ((rd_T66 l0 x10_1).f0) ((rd_T66 l0 x10_1).f1) ((rd_T66 l0 x10_1).f2) ((rd_T66 l0 x10_1).f3.f0) ((rd_T66 l0 x10_1).f3.f1) t263 _ A25.out).mono ?_
              rintro e w27 ⟨rfl, hb⟩
              refine ⟨_, rfl, ?_⟩
              have n0_ := bb BK258 hb
              have n1_ := hs w hb
              clear BK258
              clear HB
              have BK258 := n0_
              have HB := n1_
              clear n0_ n1_
              (try clear hb)
              (try clear hb2)
              (try clear hk)
              (try clear hi)
              refine hK.out _ _ ⟨(blk_cell BK258.out 0).trans rfl, (blk_cell BK258.out 1).trans rfl, (blk_cell BK258.out 2).trans rfl, (blk_cell BK258.out 3).trans rfl, (blk_cell BK258.out 4).trans rfl, ((HB.out.cell (World.block_lt_of_cell? w _ hw262_0)).trans hw262_0), ((HB.out.cell (World.block_lt_of_cell? w _ hw262_1)).trans hw262_1), ((HB.out.cell (World.block_lt_of_cell? w _ hw262_2)).trans hw262_2), ((HB.out.cell (World.block_lt_of_cell? w _ hw262_3)).trans hw262_3), ((HB.out.cell (World.block_lt_of_cell? w _ hw262_4)).trans hw262_4)⟩ (fun hHeld => ?_)
              clear hK K
              refine norm_ (a' := ?_) ?_ ?_
              rotate_left
              ·show Act.put _ (some 47) _ = _
               simp only [sq, i64_w, i32_w]
               rfl
              refine pu 10 48 (bm 13 2047) HT_ ?_
              refine pu 11 49 (bm 13 4095) HT_ ?_
              refine pu 12 37 (bm 13 8191) HT_ ?_
              refine done_ (done_of HT_.out (by kernel_rfl)) ?_
              try go_wp2
              go_meet
              case rel => exact ⟨_, (decide (t263 ≥ 0)), ar, H', ⟨by have := HK1.out; have := HJ5.out; first | omega | exact Nat.le_refl _⟩, ⟨(zk BK258)⟩, ⟨(zb w)⟩⟩
             ·rw [if_neg c24] at H
              exact absurd H (by simp)
            ·rw [if_neg c23] at H
             exact absurd H (by simp)
           ·rw [if_neg c21] at H
            have c21b0 : decide (0 < x10_1) = false := decide_eq_false c21
            clear c21
            (first | rw [c21b0] | (simp only [i64_w, i32_w]; rw [c21b0]) | skip)
            have H' := Aside0.mk H
            clear H
            try go_wp2
            have n0_ := Aside0.mk (blk_drew BK258.out)
            have n1_ := Aside0.mk (below_drew1 HB.out)
            clear BK258
            clear HB
            have BK258 := n0_
            have HB := n1_
            clear n0_ n1_
            refine start_ (n := 13) (S := fun w' => True) (ds := []) (bm 13 0) (by kernel_rfl) rfl rfl trivial (fun hHeld => ?_); refine with_tabW interchangeref10_checkContents.tab8 interchangeref10_checkContents.bits8 (fun HT_ HW_ => ?_)
            generalize wc.drew = w28 at BK258 HB hHeld ⊢
            refine pu 0 38 (bm 13 1) HT_ ?_
            refine pu 1 39 (bm 13 3) HT_ ?_
            refine pu 2 40 (bm 13 7) HT_ ?_
            refine pn 3 41 (bm 13 15) HT_ ?_
            refine pn 4 42 (bm 13 31) HT_ ?_
            refine pn 5 43 (bm 13 63) HT_ ?_
            refine pn 6 44 (bm 13 127) HT_ ?_
            refine pn 7 45 (bm 13 255) HT_ ?_
            refine pn 8 46 (bm 13 511) HT_ ?_
            refine pn 9 47 (bm 13 1023) HT_ ?_
            refine pn 10 48 (bm 13 2047) HT_ ?_
            refine pu 11 49 (bm 13 4095) HT_ ?_
            refine pu 12 37 (bm 13 8191) HT_ ?_
            refine done_ (done_of HT_.out (by kernel_rfl)) ?_
            try go_wp2
            go_meet
            case rel => exact ⟨_, (false), ar, H', ⟨by have := HK1.out; have := HJ5.out; first | omega | exact Nat.le_refl _⟩, ⟨(zk BK258)⟩, ⟨(zb w)⟩⟩
          case rest =>
           clear HC20
           try clear c1
           try clear c2
           try clear c2b0
           try clear c2b1
           try clear p2
           try clear q2
           try clear hx2
           try clear c3
           try clear c3b0
           try clear c4
           try clear c4b0
           try clear c5
           try clear c5b0
           try clear p6
           try clear c10
           try clear c12
           try clear c13
           try clear c13b0
           try clear c13b1
           try clear c17
           try clear c19
           try clear c21
           try clear c21b0
           try clear c23
           try clear c23b0
           try clear c24
           try clear c24b0
           try clear p25
           try clear q25
           try clear hx25
           try clear p26
           try clear q26
           try clear hx26
           try clear hcz14_0 hcz14_1 hcz14_2 hcz14_3 hcz14_4
           try clear hcz16_0 hcz16_1 hcz16_2 hcz16_3 hcz16_4
           try clear hcz17_0 hcz17_1 hcz17_2 hcz17_3 hcz17_4
           try clear hcz18_0 hcz18_1 hcz18_2 hcz18_3 hcz18_4
           try clear hcz8_0 hcz8_1 hcz8_2 hcz8_3 hcz8_4
           try clear hfz14_0 hfz14_1 hfz14_2 hfz14_3 hfz14_4
           try clear hfz16_0 hfz16_1 hfz16_2 hfz16_3 hfz16_4
           try clear hfz17_0 hfz17_1 hfz17_2 hfz17_3 hfz17_4
           try clear hfz18_0 hfz18_1 hfz18_2 hfz18_3 hfz18_4
           try clear hfz8_0 hfz8_1 hfz8_2 hfz8_3 hfz8_4
           try clear hx257_0
           try clear hx257_1
           try clear hx257_2
           try clear hx257_3
           try clear hx257_4
           try clear hx262_0
           try clear hx262_1
           try clear hx262_2
           try clear hx262_3
           try clear hx262_4
           try clear p2
           try clear p257
           try clear p262
           try clear q2
           try clear q257
           try clear q262
           obtain ⟨kq, x37_19, rfl, HA, HJ19, BK258, HB⟩ := hcut
           cases kq with
           | zero => exact absurd HA.out (by simp [interchangeref10_checkContents.j2])
           | succ kj19 =>
            have H := HA.out
            clear HA
            simp only [interchangeref10_checkContents.j2] at H
            by_cases c29 : x37_19 = true
            ·subst c29
             have H1 : (some 8) = some r := by rw [if_pos rfl] at H; exact H
             clear H
             have H := H1
             clear H1
             obtain rfl := Option.some.inj H
             go_wp2
             go_ret
             exact ⟨by first | rfl | (simp [errW_none, errW_some] <;> rfl) | (simp [*, errW_none, errW_some] <;> rfl), (zb w)⟩
            ·replace c29 := Bool.eq_false_iff.mpr c29
             subst c29
             have H1 : ((interchangeref10_isMass.f kj19 ((rd_T66 l0 x10_1).f3.f0) ((rd_T66 l0 x10_1).f3.f1) true).bind fun t264 => (if t264 = true then (interchangeref10_checkContents.l0 kj19 l0 l0 (l0.length : Int) (wrap64 (x10_1 + 1))) else (some 1))) = some r := by rw [if_neg (show ¬ (false = true) by decide)] at H; exact H
             clear H
             have H := H1
             clear H1
             replace H := Option.bind_eq_some_iff.mp H
             obtain ⟨t264, A300, H⟩ := H
             try dsimp only at H
             have A30 := Aside0.mk A300
             clear A300
             by_cases c31 : t264 = true
             ·subst c31
              have H1 : (interchangeref10_checkContents.l0 kj19 l0 l0 (l0.length : Int) (wrap64 (x10_1 + 1))) = some r := by rw [if_pos rfl] at H; exact H
              clear H
              have H := H1
              clear H1
              have H' := Aside0.mk H
              clear H
              obtain ⟨hcz32_0, hcz32_1, hcz32_2, hcz32_3, hcz32_4, hfz32_0, hfz32_1, hfz32_2, hfz32_3, hfz32_4⟩ := cz5 BK258
              go_wp2_with (first | ((with_reducible refine gC 20 rfl ?_); refine gl_ 53 Tryz.func20 #[.agg #[.int .i64 ((rd_T66 l0 x10_1).f3.f0), .int .i64 ((rd_T66 l0 x10_1).f3.f1)], .bool true] ?_; (with_reducible refine (interchangeref10_isMass.calls kj19 ((rd_T66 l0 x10_1).f3.f0) ((rd_T66 l0 x10_1).f3.f1) true true _ A30.out).mono ?_); rintro e w33 ⟨rfl, hb⟩; refine ⟨_, rfl, ?_⟩; replace BK258 := bb BK258 hb; replace HB := hs w hb; (try clear hb)))
              go_roundg kj19
              case measure => have := HK1.out; have := HJ5.out; have := HJ19.out; omega
              case rel => exact ⟨(wrap64 (x10_1 + 1)), ar, H', ⟨by have := HK1.out; have := HJ5.out; have := HJ19.out; omega⟩, ⟨(zb w)⟩⟩
             ·replace c31 := Bool.eq_false_iff.mpr c31
              subst c31
              have H1 : (some 1) = some r := by rw [if_neg (show ¬ (false = true) by decide)] at H; exact H
              clear H
              have H := H1
              clear H1
              obtain rfl := Option.some.inj H
              obtain ⟨hcz34_0, hcz34_1, hcz34_2, hcz34_3, hcz34_4, hfz34_0, hfz34_1, hfz34_2, hfz34_3, hfz34_4⟩ := cz5 BK258
              go_wp2_with (first | ((with_reducible refine gC 20 rfl ?_); refine gl_ 53 Tryz.func20 #[.agg #[.int .i64 ((rd_T66 l0 x10_1).f3.f0), .int .i64 ((rd_T66 l0 x10_1).f3.f1)], .bool true] ?_; (with_reducible refine (interchangeref10_isMass.calls kj19 ((rd_T66 l0 x10_1).f3.f0) ((rd_T66 l0 x10_1).f3.f1) true false _ A30.out).mono ?_); rintro e w35 ⟨rfl, hb⟩; refine ⟨_, rfl, ?_⟩; replace BK258 := bb BK258 hb; replace HB := hs w hb; (try clear hb)))
              go_ret
              exact ⟨by first | rfl | (simp [errW_none, errW_some] <;> rfl) | (simp [*, errW_none, errW_some] <;> rfl), (zb w)⟩
      ·rw [if_neg c5] at H
       exact absurd H (by simp)
     ·rw [if_neg c4] at H
      exact absurd H (by simp)
    ·rw [if_neg c3] at H
     have c3b0 : decide (x10_1 < (l0.length : Int)) = false := decide_eq_false c3
     clear c3
     obtain rfl := Option.some.inj H
     go_wp2
     go_ret
     exact ⟨by first | rfl | (simp [errW_none, errW_some] <;> rfl) | (simp [*, errW_none, errW_some] <;> rfl), (zb w)⟩

end Go.Proofs.YthgefhnolmloiaaGreatDoor.P3
