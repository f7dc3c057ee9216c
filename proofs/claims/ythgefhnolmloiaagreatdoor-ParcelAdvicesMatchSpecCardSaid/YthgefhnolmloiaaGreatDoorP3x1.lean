-- Made by a program of this session out of the translation (wip/pp.py): functions, contracts.
import Derived.Test.YthgefhnolmloiaaGreatDoorP3x0
namespace Go.Proofs.YthgefhnolmloiaaGreatDoor.P3
open Go.RowKit Go.Proofs.YthgefhnolmloiaaGreatDoorW.PrintWords Go.Proofs.YthgefhnolmloiaaGreatDoorW.PrintLast Go.Proofs.YthgefhnolmloiaaGreatDoorW.PrintMore
attribute [local go_sem] max2_int min2_int max_two min_two max_three min_three max_four min_four   -- for this text's walks alone
set_option linter.unusedVariables false
set_option linter.unusedSimpArgs false

/-! ### interchangeref1_isName: function 36 -/
mutual
def interchangeref1_isName.j0 : Nat → ByteArray → Bool → Option (Bool)
 | 0, _, _ => none
 | k + 1, x0, x21 => if x21 = true then (some false) else (interchangeref1_isName.l0 k x0 (x0.size : Int) 0)
def interchangeref1_isName.l0 : Nat → ByteArray → Int → Int → Option (Bool)
 | 0, _, _, _ => none
 | k + 1, x0, x23, x24 => if x24 < x23 then (if 0 ≤ x24 then (if x24 < (x0.size : Int) then (if (bt x0 x24) < 97 then (if (bt x0 x24) < 48 then (if (bt x0 x24) = 45 then (interchangeref1_isName.l0 k x0 x23 (wrap64 (x24 + 1))) else (some false)) else (if (bt x0 x24) > 57 then (if (bt x0 x24) = 45 then (interchangeref1_isName.l0 k x0 x23 (wrap64 (x24 + 1))) else (some false)) else (interchangeref1_isName.l0 k x0 x23 (wrap64 (x24 + 1))))) else (if (bt x0 x24) > 122 then (if (bt x0 x24) < 48 then (if (bt x0 x24) = 45 then (interchangeref1_isName.l0 k x0 x23 (wrap64 (x24 + 1))) else (some false)) else (if (bt x0 x24) > 57 then (if (bt x0 x24) = 45 then (interchangeref1_isName.l0 k x0 x23 (wrap64 (x24 + 1))) else (some false)) else (interchangeref1_isName.l0 k x0 x23 (wrap64 (x24 + 1))))) else (interchangeref1_isName.l0 k x0 x23 (wrap64 (x24 + 1))))) else (none)) else (none)) else (some true)
end
def interchangeref1_isName.f (k : Nat) (a0 : ByteArray) : Option (Bool) := if a0.toList = ([] : List UInt8) then (interchangeref1_isName.j0 k a0 true) else (if (a0.size : Int) > 40 then (interchangeref1_isName.j0 k a0 true) else (if 0 < (a0.size : Int) then (if (bt a0 0) < 97 then (interchangeref1_isName.j0 k a0 true) else (interchangeref1_isName.j0 k a0 (decide ((bt a0 0) > 122)))) else (none)))
theorem interchangeref1_isName.mono_l : ∀ k, (∀ y0 y1, LeO (interchangeref1_isName.j0 k y0 y1) (interchangeref1_isName.j0 (k + 1) y0 y1)) ∧ (∀ y0 y1 y2, LeO (interchangeref1_isName.l0 k y0 y1 y2) (interchangeref1_isName.l0 (k + 1) y0 y1 y2))
 | 0 => ⟨fun _ _ r h => by simp [interchangeref1_isName.j0] at h, fun _ _ _ r h => by simp [interchangeref1_isName.l0] at h⟩
 | k + 1 => by
  obtain ⟨ih0, ih1⟩ := interchangeref1_isName.mono_l k
  refine ⟨?_, ?_⟩
  ·intro y0 y1
   unfold interchangeref1_isName.j0
   repeat' first | with_reducible first | exact ih0 _ _ | exact ih1 _ _ _ | exact lr _ | exact ln _ | refine li ?_ ?_ | refine lb ?_ fun _ => ?_ | exact ih0 _ _ | exact ih1 _ _ _ | exact ln _ | refine li ?_ ?_ | refine lb ?_ fun _ => ?_
  ·intro y0 y1 y2
   unfold interchangeref1_isName.l0
   repeat' first | with_reducible first | exact ih0 _ _ | exact ih1 _ _ _ | exact lr _ | exact ln _ | refine li ?_ ?_ | refine lb ?_ fun _ => ?_ | exact ih0 _ _ | exact ih1 _ _ _ | exact ln _ | refine li ?_ ?_ | refine lb ?_ fun _ => ?_
theorem interchangeref1_isName.mono : ∀ a0 k, LeO (interchangeref1_isName.f k a0) (interchangeref1_isName.f (k + 1) a0) := by
 intro a0 k
 obtain ⟨ih0, ih1⟩ := interchangeref1_isName.mono_l k
 unfold interchangeref1_isName.f
 repeat' first | with_reducible first | exact ih0 _ _ | exact ih1 _ _ _ | exact lr _ | exact ln _ | refine li ?_ ?_ | refine lb ?_ fun _ => ?_ | exact ih0 _ _ | exact ih1 _ _ _ | exact ln _ | refine li ?_ ?_ | refine lb ?_ fun _ => ?_
set_option maxHeartbeats 8000000 in
set_option maxRecDepth 100000 in
theorem interchangeref1_isName.calls (k : Nat) (a0 : ByteArray) (r : Bool) (w : World) (h : interchangeref1_isName.f k a0 = some r) :
  Calls Tryz.prog 36 #[.string a0] w fun e w' => e = .returned (.bool r) ∧ Drawn0 w w' := by
 have H := h
 unfold interchangeref1_isName.f at H
 clear h
 have HC2 := Aside0.mk H
 clear H
 go_enter Tryz.func36, Tryz.ntmps36
 go_upto_region 1 with (fail)
 go_cut [21] (fun v21 wc => ∃ (kq : Nat) (x21_1 : Bool), v21 = .bool x21_1 ∧ Aside0 (interchangeref1_isName.j0 kq a0 x21_1 = some r) ∧ Aside0 (kq ≤ k) ∧ Drawn0 w wc)
 case first =>
  have H := HC2.out
  clear HC2
  by_cases c3 : a0.toList = ([] : List UInt8)
  ·rw [if_pos c3] at H
   have c3b0 : (a0.toList == ([] : List UInt8)) = true := beq_iff_eq.mpr c3
   have c3b1 : (a0.toList != ([] : List UInt8)) = false := bne_eq_false_iff_eq.mpr c3
   clear c3
   (first | rw [c3b0] | (simp only [i64_w, i32_w]; rw [c3b0]) | skip)
   have H' := Aside0.mk H
   clear H
   go_wp2
   go_meet
   case rel => exact ⟨_, (true), ar, H', ⟨by first | omega | exact Nat.le_refl _⟩, dr⟩
  ·rw [if_neg c3] at H
   have c3b0 : (a0.toList == ([] : List UInt8)) = false := beq_eq_false_iff_ne.mpr c3
   have c3b1 : (a0.toList != ([] : List UInt8)) = true := bne_iff_ne.mpr c3
   (first | rw [c3b0] | (simp only [i64_w, i32_w]; rw [c3b0]) | skip)
   by_cases c4 : (a0.size : Int) > 40
   ·rw [if_pos c4] at H
    have c4b0 : decide (40 < (a0.size : Int)) = true := decide_eq_true c4
    have c4b1 : decide (40 < a0.size) = true := decide_eq_true (by omega)
    clear c4
    have H' := Aside0.mk H
    clear H
    go_wp2
    go_meet
    case rel => exact ⟨_, (true), ar, H', ⟨by first | omega | exact Nat.le_refl _⟩, dr⟩
   ·rw [if_neg c4] at H
    have c4b0 : decide (40 < (a0.size : Int)) = false := decide_eq_false c4
    have c4b1 : decide (40 < a0.size) = false := decide_eq_false (by omega)
    clear c4
    by_cases c5 : 0 < (a0.size : Int)
    ·rw [if_pos c5] at H
     have c5b0 : decide (0 < (a0.size : Int)) = true := decide_eq_true c5
     have c5b1 : decide (0 < a0.size) = true := decide_eq_true (by omega)
     clear c5
     by_cases c7 : (bt a0 0) < 97
     ·rw [if_pos c7] at H
      have c7b0 : decide ((bt a0 0) < 97) = true := decide_eq_true c7
      clear c7
      have H' := Aside0.mk H
      clear H
      have p6 : 0 ≤ (0 : Int) := (by omega)
      have q6 : 0 < a0.size := (by have : (0 : Int) < (a0.size : Int) := of_decide_eq_true (by assumption); omega)
      have hx6 : ∀ h : 0 < a0.size, ((a0[0]'h).toNat : Int) = bt a0 0 := bt_at a0 0
      clear p6
      have qi6 : (0 < (a0.size : Int)) = True := eq_true (of_decide_eq_true (by assumption))
      replace q6 := eq_true q6
      go_wp2
      go_meet
      case rel => exact ⟨_, (true), ar, H', ⟨by first | omega | exact Nat.le_refl _⟩, dr⟩
     ·rw [if_neg c7] at H
      have c7b0 : decide ((bt a0 0) < 97) = false := decide_eq_false c7
      clear c7
      have H' := Aside0.mk H
      clear H
      have p6 : 0 ≤ (0 : Int) := (by omega)
      have q6 : 0 < a0.size := (by have : (0 : Int) < (a0.size : Int) := of_decide_eq_true (by assumption); omega)
      have hx6 : ∀ h : 0 < a0.size, ((a0[0]'h).toNat : Int) = bt a0 0 := bt_at a0 0
      clear p6
      have qi6 : (0 < (a0.size : Int)) = True := eq_true (of_decide_eq_true (by assumption))
      replace q6 := eq_true q6
      have p8 : 0 ≤ (0 : Int) := (by omega)
      have q8 : 0 < a0.size := (by have : (0 : Int) < (a0.size : Int) := of_decide_eq_true (by assumption); omega)
      have hx8 : ∀ h : 0 < a0.size, ((a0[0]'h).toNat : Int) = bt a0 0 := bt_at a0 0
      clear p8
      have qi8 : (0 < (a0.size : Int)) = True := eq_true (of_decide_eq_true (by assumption))
      replace q8 := eq_true q8
      go_wp2
      go_meet
      case rel => exact ⟨_, (decide ((bt a0 0) > 122)), ar, H', ⟨by first | omega | exact Nat.le_refl _⟩, dr⟩
    ·rw [if_neg c5] at H
     exact absurd H (by simp)
 case rest =>
  clear HC2
  try clear p2
  try clear c3
  try clear c3b0
  try clear c3b1
  try clear c4
  try clear c4b0
  try clear c4b1
  try clear c5
  try clear c5b0
  try clear c5b1
  try clear p6
  try clear q6
  try clear hx6
  try clear qi6
  try clear c7
  try clear c7b0
  try clear p8
  try clear q8
  try clear hx8
  try clear qi8
  try clear p6
  try clear p8
  try clear q6
  try clear q8
  obtain ⟨kq, x21_1, rfl, HA, HJ1, ⟨mc1, rfl⟩⟩ := hcut
  cases kq with
  | zero => exact absurd HA.out (by simp [interchangeref1_isName.j0])
  | succ kj1 =>
   have H := HA.out
   clear HA
   simp only [interchangeref1_isName.j0] at H
   by_cases c9 : x21_1 = true
   ·subst c9
    have H1 : (some false) = some r := by rw [if_pos rfl] at H; exact H
    clear H
    have H := H1
    clear H1
    obtain rfl := Option.some.inj H
    go_wp2
    go_ret
    exact ⟨ar, dr⟩
   ·replace c9 := Bool.eq_false_iff.mpr c9
    subst c9
    have H1 : (interchangeref1_isName.l0 kj1 a0 (a0.size : Int) 0) = some r := by rw [if_neg (show ¬ (false = true) by decide)] at H; exact H
    clear H
    have H := H1
    clear H1
    have H' := Aside0.mk H
    clear H
    go_wp2
    try simp only [sq]
    go_loopg [24] kj1 (fun kq v24 w' => ∃ (x24_2 : Int), v24 = .int .i64 x24_2 ∧ Aside0 (interchangeref1_isName.l0 kq a0 (a0.size : Int) x24_2 = some r) ∧ Aside0 (kq ≤ kj1) ∧ Drawn0 w w')
    case atStart => exact ⟨(0), ar, H', ⟨Nat.le_refl _⟩, dr⟩
    case round =>
     clear H'
     try clear c1
     try clear p2
     try clear c3
     try clear c3b0
     try clear c3b1
     try clear c4
     try clear c4b0
     try clear c4b1
     try clear c5
     try clear c5b0
     try clear c5b1
     try clear p6
     try clear q6
     try clear hx6
     try clear qi6
     try clear c7
     try clear c7b0
     try clear p8
     try clear q8
     try clear hx8
     try clear qi8
     try clear c9
     try clear p2
     try clear p6
     try clear p8
     try clear q6
     try clear q8
     obtain ⟨x24_2, rfl, HA, HK2, ⟨m2, rfl⟩⟩ := hrel
     cases gk with
     | zero => exact absurd HA.out (by simp [interchangeref1_isName.l0])
     | succ k2 =>
      have H := HA.out
      clear HA
      simp only [interchangeref1_isName.l0] at H
      by_cases c10 : x24_2 < (a0.size : Int)
      ·rw [if_pos c10] at H
       have c10b0 : decide (x24_2 < (a0.size : Int)) = true := decide_eq_true c10
       clear c10
       by_cases c11 : 0 ≤ x24_2
       ·rw [if_pos c11] at H
        have c11b0 : decide (0 ≤ x24_2) = true := decide_eq_true c11
        clear c11
        by_cases c12 : x24_2 < (a0.size : Int)
        ·rw [if_pos c12] at H
         have c12b0 : decide (x24_2 < (a0.size : Int)) = true := decide_eq_true c12
         clear c12
         by_cases c14 : (bt a0 x24_2) < 97
         ·rw [if_pos c14] at H
          have c14b0 : decide ((bt a0 x24_2) < 97) = true := decide_eq_true c14
          clear c14
          by_cases c15 : (bt a0 x24_2) < 48
          ·rw [if_pos c15] at H
           have c15b0 : decide ((bt a0 x24_2) < 48) = true := decide_eq_true c15
           clear c15
           by_cases c16 : (bt a0 x24_2) = 45
           ·rw [if_pos c16] at H
            have c16b0 : ((bt a0 x24_2) == 45) = true := beq_iff_eq.mpr c16
            have c16b1 : ((bt a0 x24_2) != 45) = false := bne_eq_false_iff_eq.mpr c16
            clear c16
            have H' := Aside0.mk H
            clear H
            have p13 : 0 ≤ (x24_2 : Int) := of_decide_eq_true (by assumption)
            have q13 : x24_2 < (a0.size : Int) := of_decide_eq_true (by assumption)
            have hx13 := bt_at a0 x24_2
            replace p13 := eq_true p13
            replace q13 := eq_true q13
            go_wp2
            go_roundg k2
            case measure => have := HJ1.out; have := HK2.out; omega
            case rel => exact ⟨(wrap64 (x24_2 + 1)), ar, H', ⟨by have := HJ1.out; have := HK2.out; omega⟩, dr⟩
           ·rw [if_neg c16] at H
            have c16b0 : ((bt a0 x24_2) == 45) = false := beq_eq_false_iff_ne.mpr c16
            have c16b1 : ((bt a0 x24_2) != 45) = true := bne_iff_ne.mpr c16
            obtain rfl := Option.some.inj H
            have p13 : 0 ≤ (x24_2 : Int) := of_decide_eq_true (by assumption)
            have q13 : x24_2 < (a0.size : Int) := of_decide_eq_true (by assumption)
            have hx13 := bt_at a0 x24_2
            replace p13 := eq_true p13
            replace q13 := eq_true q13
            go_wp2
            go_ret
            exact ⟨ar, dr⟩
          ·rw [if_neg c15] at H
           have c15b0 : decide ((bt a0 x24_2) < 48) = false := decide_eq_false c15
           clear c15
           by_cases c17 : (bt a0 x24_2) > 57
           ·rw [if_pos c17] at H
            have c17b0 : decide (57 < (bt a0 x24_2)) = true := decide_eq_true c17
            clear c17
            by_cases c18 : (bt a0 x24_2) = 45
            ·rw [if_pos c18] at H
             have c18b0 : ((bt a0 x24_2) == 45) = true := beq_iff_eq.mpr c18
             have c18b1 : ((bt a0 x24_2) != 45) = false := bne_eq_false_iff_eq.mpr c18
             clear c18
             have H' := Aside0.mk H
             clear H
             have p13 : 0 ≤ (x24_2 : Int) := of_decide_eq_true (by assumption)
             have q13 : x24_2 < (a0.size : Int) := of_decide_eq_true (by assumption)
             have hx13 := bt_at a0 x24_2
             replace p13 := eq_true p13
             replace q13 := eq_true q13
             go_wp2
             go_roundg k2
             case measure => have := HJ1.out; have := HK2.out; omega
             case rel => exact ⟨(wrap64 (x24_2 + 1)), ar, H', ⟨by have := HJ1.out; have := HK2.out; omega⟩, dr⟩
            ·rw [if_neg c18] at H
             have c18b0 : ((bt a0 x24_2) == 45) = false := beq_eq_false_iff_ne.mpr c18
             have c18b1 : ((bt a0 x24_2) != 45) = true := bne_iff_ne.mpr c18
             obtain rfl := Option.some.inj H
             have p13 : 0 ≤ (x24_2 : Int) := of_decide_eq_true (by assumption)
             have q13 : x24_2 < (a0.size : Int) := of_decide_eq_true (by assumption)
             have hx13 := bt_at a0 x24_2
             replace p13 := eq_true p13
             replace q13 := eq_true q13
             go_wp2
             go_ret
             exact ⟨ar, dr⟩
           ·rw [if_neg c17] at H
            have c17b0 : decide (57 < (bt a0 x24_2)) = false := decide_eq_false c17
            clear c17
            have H' := Aside0.mk H
            clear H
            have p13 : 0 ≤ (x24_2 : Int) := of_decide_eq_true (by assumption)
            have q13 : x24_2 < (a0.size : Int) := of_decide_eq_true (by assumption)
            have hx13 := bt_at a0 x24_2
            replace p13 := eq_true p13
            replace q13 := eq_true q13
            go_wp2
            go_roundg k2
            case measure => have := HJ1.out; have := HK2.out; omega
            case rel => exact ⟨(wrap64 (x24_2 + 1)), ar, H', ⟨by have := HJ1.out; have := HK2.out; omega⟩, dr⟩
         ·rw [if_neg c14] at H
          have c14b0 : decide ((bt a0 x24_2) < 97) = false := decide_eq_false c14
          clear c14
          by_cases c19 : (bt a0 x24_2) > 122
          ·rw [if_pos c19] at H
           have c19b0 : decide (122 < (bt a0 x24_2)) = true := decide_eq_true c19
           clear c19
           by_cases c20 : (bt a0 x24_2) < 48
           ·rw [if_pos c20] at H
            have c20b0 : decide ((bt a0 x24_2) < 48) = true := decide_eq_true c20
            clear c20
            by_cases c21 : (bt a0 x24_2) = 45
            ·rw [if_pos c21] at H
             have c21b0 : ((bt a0 x24_2) == 45) = true := beq_iff_eq.mpr c21
             have c21b1 : ((bt a0 x24_2) != 45) = false := bne_eq_false_iff_eq.mpr c21
             clear c21
             have H' := Aside0.mk H
             clear H
             have p13 : 0 ≤ (x24_2 : Int) := of_decide_eq_true (by assumption)
             have q13 : x24_2 < (a0.size : Int) := of_decide_eq_true (by assumption)
             have hx13 := bt_at a0 x24_2
             replace p13 := eq_true p13
             replace q13 := eq_true q13
             go_wp2
             go_roundg k2
             case measure => have := HJ1.out; have := HK2.out; omega
             case rel => exact ⟨(wrap64 (x24_2 + 1)), ar, H', ⟨by have := HJ1.out; have := HK2.out; omega⟩, dr⟩
            ·rw [if_neg c21] at H
             have c21b0 : ((bt a0 x24_2) == 45) = false := beq_eq_false_iff_ne.mpr c21
             have c21b1 : ((bt a0 x24_2) != 45) = true := bne_iff_ne.mpr c21
             obtain rfl := Option.some.inj H
             have p13 : 0 ≤ (x24_2 : Int) := of_decide_eq_true (by assumption)
             have q13 : x24_2 < (a0.size : Int) := of_decide_eq_true (by assumption)
             have hx13 := bt_at a0 x24_2
             replace p13 := eq_true p13
             replace q13 := eq_true q13
             go_wp2
             go_ret
             exact ⟨ar, dr⟩
           ·rw [if_neg c20] at H
            have c20b0 : decide ((bt a0 x24_2) < 48) = false := decide_eq_false c20
            clear c20
            by_cases c22 : (bt a0 x24_2) > 57
            ·rw [if_pos c22] at H
             have c22b0 : decide (57 < (bt a0 x24_2)) = true := decide_eq_true c22
             clear c22
             by_cases c23 : (bt a0 x24_2) = 45
             ·rw [if_pos c23] at H
              have c23b0 : ((bt a0 x24_2) == 45) = true := beq_iff_eq.mpr c23
              have c23b1 : ((bt a0 x24_2) != 45) = false := bne_eq_false_iff_eq.mpr c23
              clear c23
              have H' := Aside0.mk H
              clear H
              have p13 : 0 ≤ (x24_2 : Int) := of_decide_eq_true (by assumption)
              have q13 : x24_2 < (a0.size : Int) := of_decide_eq_true (by assumption)
              have hx13 := bt_at a0 x24_2
              replace p13 := eq_true p13
              replace q13 := eq_true q13
              go_wp2
              go_roundg k2
              case measure => have := HJ1.out; have := HK2.out; omega
              case rel => exact ⟨(wrap64 (x24_2 + 1)), ar, H', ⟨by have := HJ1.out; have := HK2.out; omega⟩, dr⟩
             ·rw [if_neg c23] at H
              have c23b0 : ((bt a0 x24_2) == 45) = false := beq_eq_false_iff_ne.mpr c23
              have c23b1 : ((bt a0 x24_2) != 45) = true := bne_iff_ne.mpr c23
              obtain rfl := Option.some.inj H
              have p13 : 0 ≤ (x24_2 : Int) := of_decide_eq_true (by assumption)
              have q13 : x24_2 < (a0.size : Int) := of_decide_eq_true (by assumption)
              have hx13 := bt_at a0 x24_2
              replace p13 := eq_true p13
              replace q13 := eq_true q13
              go_wp2
              go_ret
              exact ⟨ar, dr⟩
            ·rw [if_neg c22] at H
             have c22b0 : decide (57 < (bt a0 x24_2)) = false := decide_eq_false c22
             clear c22
             have H' := Aside0.mk H
             clear H
             have p13 : 0 ≤ (x24_2 : Int) := of_decide_eq_true (by assumption)
             have q13 : x24_2 < (a0.size : Int) := of_decide_eq_true (by assumption)
             have hx13 := bt_at a0 x24_2
             replace p13 := eq_true p13
             replace q13 := eq_true q13
             go_wp2
             go_roundg k2
             case measure => have := HJ1.out; have := HK2.out; omega
             case rel => exact ⟨(wrap64 (x24_2 + 1)), ar, H', ⟨by have := HJ1.out; have := HK2.out; omega⟩, dr⟩
          ·rw [if_neg c19] at H
           have c19b0 : decide (122 < (bt a0 x24_2)) = false := decide_eq_false c19
           clear c19
           have H' := Aside0.mk H
           clear H
           have p13 : 0 ≤ (x24_2 : Int) := of_decide_eq_true (by assumption)
           have q13 : x24_2 < (a0.size : Int) := of_decide_eq_true (by assumption)
           have hx13 := bt_at a0 x24_2
           replace p13 := eq_true p13
           replace q13 := eq_true q13
           go_wp2
           go_roundg k2
           case measure => have := HJ1.out; have := HK2.out; omega
           case rel => exact ⟨(wrap64 (x24_2 + 1)), ar, H', ⟨by have := HJ1.out; have := HK2.out; omega⟩, dr⟩
        ·rw [if_neg c12] at H
         exact absurd H (by simp)
       ·rw [if_neg c11] at H
        exact absurd H (by simp)
      ·rw [if_neg c10] at H
       have c10b0 : decide (x24_2 < (a0.size : Int)) = false := decide_eq_false c10
       clear c10
       obtain rfl := Option.some.inj H
       go_wp2
       go_ret
       exact ⟨ar, dr⟩

/-! ### interchangeref1_IsName: function 17 -/
def interchangeref1_IsName.f (k : Nat) (a0 : ByteArray) : Option (Bool) := (interchangeref1_isName.f k a0).bind fun t101 => (some t101)
theorem interchangeref1_IsName.mono : ∀ a0 k, LeO (interchangeref1_IsName.f k a0) (interchangeref1_IsName.f (k + 1) a0) := by
 intro a0 k
 unfold interchangeref1_IsName.f
 repeat' first | with_reducible first | exact interchangeref1_isName.mono _ _ | exact lr _ | exact ln _ | refine li ?_ ?_ | refine lb ?_ fun _ => ?_ | exact interchangeref1_isName.mono _ _ | exact ln _ | refine li ?_ ?_ | refine lb ?_ fun _ => ?_
set_option maxHeartbeats 8000000 in
set_option maxRecDepth 100000 in
theorem interchangeref1_IsName.calls (k : Nat) (a0 : ByteArray) (r : Bool) (w : World) (h : interchangeref1_IsName.f k a0 = some r) :
  Calls Tryz.prog 17 #[.string a0] w fun e w' => e = .returned (.bool r) ∧ Drawn0 w w' := by
 have H := h
 unfold interchangeref1_IsName.f at H
 clear h
 replace H := Option.bind_eq_some_iff.mp H
 obtain ⟨t101, A20, H⟩ := H
 try dsimp only at H
 have A2 := Aside0.mk A20
 clear A20
 obtain rfl := Option.some.inj H
 go_enter Tryz.func17, Tryz.ntmps17
 go_wp2_with (first | ((with_reducible refine gC 36 rfl ?_); refine gl_ 4 Tryz.func36 #[.string a0] ?_; (with_reducible refine (interchangeref1_isName.calls k a0 t101 _ A2.out).mono ?_); rintro e w' ⟨rfl, ⟨nd, rfl⟩⟩; refine ⟨_, rfl, ?_⟩))
 go_ret
 exact ⟨ar, dr⟩

/-! ### interchangeref1_within: function 57 -/
def interchangeref1_within.f (a0 : Int) (a1 : Int) (a2 : Int) : Option (Bool) := if a1 ≤ a0 then (some (decide (a0 ≤ a2))) else (some false)
set_option maxHeartbeats 8000000 in
set_option maxRecDepth 100000 in
theorem interchangeref1_within.calls (a0 : Int) (a1 : Int) (a2 : Int) (r : Bool) (w : World) (h : interchangeref1_within.f a0 a1 a2 = some r) :
  Calls Tryz.prog 57 #[.int .i64 a0, .int .i64 a1, .int .i64 a2] w fun e w' => e = .returned (.bool r) ∧ Drawn0 w w' := by
 have H := h
 unfold interchangeref1_within.f at H
 clear h
 by_cases c4 : a1 ≤ a0
 ·rw [if_pos c4] at H
  have c4b0 : decide (a1 ≤ a0) = true := decide_eq_true c4
  clear c4
  obtain rfl := Option.some.inj H
  go_enter Tryz.func57, Tryz.ntmps57
  go_wp2
  go_ret
  exact ⟨ar, dr⟩
 ·rw [if_neg c4] at H
  have c4b0 : decide (a1 ≤ a0) = false := decide_eq_false c4
  clear c4
  obtain rfl := Option.some.inj H
  go_enter Tryz.func57, Tryz.ntmps57
  go_wp2
  go_ret
  exact ⟨ar, dr⟩

/-! ### interchangeref1_isDay: function 37 -/
def interchangeref1_isDay.f (a0 : Int) : Option (Bool) := (interchangeref1_within.f a0 1 3652059).bind fun t102 => (some t102)
set_option maxHeartbeats 8000000 in
set_option maxRecDepth 100000 in
theorem interchangeref1_isDay.calls (a0 : Int) (r : Bool) (w : World) (h : interchangeref1_isDay.f a0 = some r) :
  Calls Tryz.prog 37 #[.int .i64 a0] w fun e w' => e = .returned (.bool r) ∧ Drawn0 w w' := by
 have H := h
 unfold interchangeref1_isDay.f at H
 clear h
 replace H := Option.bind_eq_some_iff.mp H
 obtain ⟨t102, A20, H⟩ := H
 try dsimp only at H
 have A2 := Aside0.mk A20
 clear A20
 obtain rfl := Option.some.inj H
 go_enter Tryz.func37, Tryz.ntmps37
 go_wp2_with (first | ((with_reducible refine gC 57 rfl ?_); refine gl_ 4 Tryz.func57 #[.int .i64 a0, .int .i64 1, .int .i64 3652059] ?_; (with_reducible refine (interchangeref1_within.calls a0 1 3652059 t102 _ A2.out).mono ?_); rintro e w' ⟨rfl, ⟨nd, rfl⟩⟩; refine ⟨_, rfl, ?_⟩))
 go_ret
 exact ⟨ar, dr⟩

/-! ### interchangeref1_IsDay: function 18 -/
def interchangeref1_IsDay.f (a0 : Int) : Option (Bool) := (interchangeref1_isDay.f a0).bind fun t103 => (some t103)
set_option maxHeartbeats 8000000 in
set_option maxRecDepth 100000 in
theorem interchangeref1_IsDay.calls (a0 : Int) (r : Bool) (w : World) (h : interchangeref1_IsDay.f a0 = some r) :
  Calls Tryz.prog 18 #[.int .i64 a0] w fun e w' => e = .returned (.bool r) ∧ Drawn0 w w' := by
 have H := h
 unfold interchangeref1_IsDay.f at H
 clear h
 replace H := Option.bind_eq_some_iff.mp H
 obtain ⟨t103, A20, H⟩ := H
 try dsimp only at H
 have A2 := Aside0.mk A20
 clear A20
 obtain rfl := Option.some.inj H
 go_enter Tryz.func18, Tryz.ntmps18
 go_wp2_with (first | ((with_reducible refine gC 37 rfl ?_); refine gl_ 4 Tryz.func37 #[.int .i64 a0] ?_; (with_reducible refine (interchangeref1_isDay.calls a0 t103 _ A2.out).mono ?_); rintro e w' ⟨rfl, ⟨nd, rfl⟩⟩; refine ⟨_, rfl, ?_⟩))
 go_ret
 exact ⟨ar, dr⟩

/-! ### interchangeref1_isKind: function 58 -/
def interchangeref1_isKind.f (a0 : Int) : Option (Bool) := (interchangeref1_within.f a0 1 5).bind fun t104 => (some t104)
set_option maxHeartbeats 8000000 in
set_option maxRecDepth 100000 in
theorem interchangeref1_isKind.calls (a0 : Int) (r : Bool) (w : World) (h : interchangeref1_isKind.f a0 = some r) :
  Calls Tryz.prog 58 #[.int .i64 a0] w fun e w' => e = .returned (.bool r) ∧ Drawn0 w w' := by
 have H := h
 unfold interchangeref1_isKind.f at H
 clear h
 replace H := Option.bind_eq_some_iff.mp H
 obtain ⟨t104, A20, H⟩ := H
 try dsimp only at H
 have A2 := Aside0.mk A20
 clear A20
 obtain rfl := Option.some.inj H
 go_enter Tryz.func58, Tryz.ntmps58
 go_wp2_with (first | ((with_reducible refine gC 57 rfl ?_); refine gl_ 4 Tryz.func57 #[.int .i64 a0, .int .i64 1, .int .i64 5] ?_; (with_reducible refine (interchangeref1_within.calls a0 1 5 t104 _ A2.out).mono ?_); rintro e w' ⟨rfl, ⟨nd, rfl⟩⟩; refine ⟨_, rfl, ?_⟩))
 go_ret
 exact ⟨ar, dr⟩

/-! ### interchangeref1_isDigits: function 88 -/
def interchangeref1_isDigits.l0 : Nat → ByteArray → Int → Int → Option (Bool)
 | 0, _, _, _ => none
 | k + 1, x0, x7, x8 => if x8 < x7 then (if 0 ≤ x8 then (if x8 < (x0.size : Int) then (if (bt x0 x8) < 48 then (some false) else (if (bt x0 x8) > 57 then (some false) else (interchangeref1_isDigits.l0 k x0 x7 (wrap64 (x8 + 1))))) else (none)) else (none)) else (some true)
def interchangeref1_isDigits.f (k : Nat) (a0 : ByteArray) : Option (Bool) := if a0.toList = ([] : List UInt8) then (some false) else (interchangeref1_isDigits.l0 k a0 (a0.size : Int) 0)
theorem interchangeref1_isDigits.mono_l : ∀ k, (∀ y0 y1 y2, LeO (interchangeref1_isDigits.l0 k y0 y1 y2) (interchangeref1_isDigits.l0 (k + 1) y0 y1 y2))
 | 0 => fun _ _ _ r h => by simp [interchangeref1_isDigits.l0] at h
 | k + 1 => by
  have ih0 := interchangeref1_isDigits.mono_l k
  ·intro y0 y1 y2
   unfold interchangeref1_isDigits.l0
   repeat' first | with_reducible first | exact ih0 _ _ _ | exact lr _ | exact ln _ | refine li ?_ ?_ | refine lb ?_ fun _ => ?_ | exact ih0 _ _ _ | exact ln _ | refine li ?_ ?_ | refine lb ?_ fun _ => ?_
theorem interchangeref1_isDigits.mono : ∀ a0 k, LeO (interchangeref1_isDigits.f k a0) (interchangeref1_isDigits.f (k + 1) a0) := by
 intro a0 k
 have ih0 := interchangeref1_isDigits.mono_l k
 unfold interchangeref1_isDigits.f
 repeat' first | with_reducible first | exact ih0 _ _ _ | exact lr _ | exact ln _ | refine li ?_ ?_ | refine lb ?_ fun _ => ?_ | exact ih0 _ _ _ | exact ln _ | refine li ?_ ?_ | refine lb ?_ fun _ => ?_
set_option maxHeartbeats 8000000 in
set_option maxRecDepth 100000 in
theorem interchangeref1_isDigits.calls (k : Nat) (a0 : ByteArray) (r : Bool) (w : World) (h : interchangeref1_isDigits.f k a0 = some r) :
  Calls Tryz.prog 88 #[.string a0] w fun e w' => e = .returned (.bool r) ∧ Drawn0 w w' := by
 have H := h
 unfold interchangeref1_isDigits.f at H
 clear h
 by_cases c2 : a0.toList = ([] : List UInt8)
 ·rw [if_pos c2] at H
  have c2b0 : (a0.toList == ([] : List UInt8)) = true := beq_iff_eq.mpr c2
  have c2b1 : (a0.toList != ([] : List UInt8)) = false := bne_eq_false_iff_eq.mpr c2
  clear c2
  obtain rfl := Option.some.inj H
  go_enter Tryz.func88, Tryz.ntmps88
  go_wp2
  go_ret
  exact ⟨ar, dr⟩
 ·rw [if_neg c2] at H
  have c2b0 : (a0.toList == ([] : List UInt8)) = false := beq_eq_false_iff_ne.mpr c2
  have c2b1 : (a0.toList != ([] : List UInt8)) = true := bne_iff_ne.mpr c2
  have H' := Aside0.mk H
  clear H
  go_enter Tryz.func88, Tryz.ntmps88
  go_wp2
  try simp only [sq]
  go_loopg [8] k (fun kq v8 w' => ∃ (x8_1 : Int), v8 = .int .i64 x8_1 ∧ Aside0 (interchangeref1_isDigits.l0 kq a0 (a0.size : Int) x8_1 = some r) ∧ Aside0 (kq ≤ k) ∧ Drawn0 w w')
  case atStart => exact ⟨(0), ar, H', ⟨Nat.le_refl _⟩, dr⟩
  case round =>
   clear H'
   try clear c2
   try clear c2b0
   try clear c2b1
   try clear p2
   obtain ⟨x8_1, rfl, HA, HK1, ⟨m1, rfl⟩⟩ := hrel
   cases gk with
   | zero => exact absurd HA.out (by simp [interchangeref1_isDigits.l0])
   | succ k1 =>
    have H := HA.out
    clear HA
    simp only [interchangeref1_isDigits.l0] at H
    by_cases c3 : x8_1 < (a0.size : Int)
    ·rw [if_pos c3] at H
     have c3b0 : decide (x8_1 < (a0.size : Int)) = true := decide_eq_true c3
     clear c3
     by_cases c4 : 0 ≤ x8_1
     ·rw [if_pos c4] at H
      have c4b0 : decide (0 ≤ x8_1) = true := decide_eq_true c4
      clear c4
      by_cases c5 : x8_1 < (a0.size : Int)
      ·rw [if_pos c5] at H
       have c5b0 : decide (x8_1 < (a0.size : Int)) = true := decide_eq_true c5
       clear c5
       by_cases c7 : (bt a0 x8_1) < 48
       ·rw [if_pos c7] at H
        have c7b0 : decide ((bt a0 x8_1) < 48) = true := decide_eq_true c7
        clear c7
        obtain rfl := Option.some.inj H
        have p6 : 0 ≤ (x8_1 : Int) := of_decide_eq_true (by assumption)
        have q6 : x8_1 < (a0.size : Int) := of_decide_eq_true (by assumption)
        have hx6 := bt_at a0 x8_1
        replace p6 := eq_true p6
        replace q6 := eq_true q6
        go_wp2
        go_ret
        exact ⟨ar, dr⟩
       ·rw [if_neg c7] at H
        have c7b0 : decide ((bt a0 x8_1) < 48) = false := decide_eq_false c7
        clear c7
        by_cases c9 : (bt a0 x8_1) > 57
        ·rw [if_pos c9] at H
         have c9b0 : decide (57 < (bt a0 x8_1)) = true := decide_eq_true c9
         clear c9
         obtain rfl := Option.some.inj H
         have p6 : 0 ≤ (x8_1 : Int) := of_decide_eq_true (by assumption)
         have q6 : x8_1 < (a0.size : Int) := of_decide_eq_true (by assumption)
         have hx6 := bt_at a0 x8_1
         replace p6 := eq_true p6
         replace q6 := eq_true q6
         have p8 : 0 ≤ (x8_1 : Int) := of_decide_eq_true (by assumption)
         have q8 : x8_1 < (a0.size : Int) := of_decide_eq_true (by assumption)
         have hx8 := bt_at a0 x8_1
         replace p8 := eq_true p8
         replace q8 := eq_true q8
         go_wp2
         go_ret
         exact ⟨ar, dr⟩
        ·rw [if_neg c9] at H
         have c9b0 : decide (57 < (bt a0 x8_1)) = false := decide_eq_false c9
         clear c9
         have H' := Aside0.mk H
         clear H
         have p6 : 0 ≤ (x8_1 : Int) := of_decide_eq_true (by assumption)
         have q6 : x8_1 < (a0.size : Int) := of_decide_eq_true (by assumption)
         have hx6 := bt_at a0 x8_1
         replace p6 := eq_true p6
         replace q6 := eq_true q6
         have p8 : 0 ≤ (x8_1 : Int) := of_decide_eq_true (by assumption)
         have q8 : x8_1 < (a0.size : Int) := of_decide_eq_true (by assumption)
         have hx8 := bt_at a0 x8_1
         replace p8 := eq_true p8
         replace q8 := eq_true q8
         go_wp2
         go_roundg k1
         case measure => have := HK1.out; omega
         case rel => exact ⟨(wrap64 (x8_1 + 1)), ar, H', ⟨by have := HK1.out; omega⟩, dr⟩
      ·rw [if_neg c5] at H
       exact absurd H (by simp)
     ·rw [if_neg c4] at H
      exact absurd H (by simp)
    ·rw [if_neg c3] at H
     have c3b0 : decide (x8_1 < (a0.size : Int)) = false := decide_eq_false c3
     clear c3
     obtain rfl := Option.some.inj H
     go_wp2
     go_ret
     exact ⟨ar, dr⟩

/-! ### interchangeref1_threes: function 89 -/
def interchangeref1_threes.l0 : Nat → ByteArray → Int → Int → Int → Option (Bool)
 | 0, _, _, _, _ => none
 | k + 1, x0, x3, x7, x8 => if x8 < x7 then (if 0 ≤ (wrap64 ((wrap64 ((x0.size : Int) - 1)) - x8)) then (if (wrap64 ((wrap64 ((x0.size : Int) - 1)) - x8)) < (x0.size : Int) then (if (Int.tmod x8 2) = 1 then (interchangeref1_threes.l0 k x0 (wrap64 (x3 + ((((bt x0 (wrap64 ((wrap64 ((x0.size : Int) - 1)) - x8))) - 48) % 256) * 3))) x7 (wrap64 (x8 + 1))) else (interchangeref1_threes.l0 k x0 (wrap64 (x3 + (((bt x0 (wrap64 ((wrap64 ((x0.size : Int) - 1)) - x8))) - 48) % 256))) x7 (wrap64 (x8 + 1)))) else (none)) else (none)) else (some ((Int.tmod x3 10) == 0))
def interchangeref1_threes.f (k : Nat) (a0 : ByteArray) : Option (Bool) := interchangeref1_threes.l0 k a0 0 (a0.size : Int) 0
theorem interchangeref1_threes.mono_l : ∀ k, (∀ y0 y1 y2 y3, LeO (interchangeref1_threes.l0 k y0 y1 y2 y3) (interchangeref1_threes.l0 (k + 1) y0 y1 y2 y3))
 | 0 => fun _ _ _ _ r h => by simp [interchangeref1_threes.l0] at h
 | k + 1 => by
  have ih0 := interchangeref1_threes.mono_l k
  ·intro y0 y1 y2 y3
   unfold interchangeref1_threes.l0
   repeat' first | with_reducible first | exact ih0 _ _ _ _ | exact lr _ | exact ln _ | refine li ?_ ?_ | refine lb ?_ fun _ => ?_ | exact ih0 _ _ _ _ | exact ln _ | refine li ?_ ?_ | refine lb ?_ fun _ => ?_
theorem interchangeref1_threes.mono : ∀ a0 k, LeO (interchangeref1_threes.f k a0) (interchangeref1_threes.f (k + 1) a0) := by
 intro a0 k
 have ih0 := interchangeref1_threes.mono_l k
 unfold interchangeref1_threes.f
 repeat' first | with_reducible first | exact ih0 _ _ _ _ | exact lr _ | exact ln _ | refine li ?_ ?_ | refine lb ?_ fun _ => ?_ | exact ih0 _ _ _ _ | exact ln _ | refine li ?_ ?_ | refine lb ?_ fun _ => ?_
set_option maxHeartbeats 8000000 in
set_option maxRecDepth 100000 in
theorem interchangeref1_threes.calls (k : Nat) (a0 : ByteArray) (r : Bool) (w : World) (h : interchangeref1_threes.f k a0 = some r) :
  Calls Tryz.prog 89 #[.string a0] w fun e w' => e = .returned (.bool r) ∧ Drawn0 w w' := by
 have H := h
 unfold interchangeref1_threes.f at H
 clear h
 have H' := Aside0.mk H
 clear H
 go_enter Tryz.func89, Tryz.ntmps89
 go_wp2
 try simp only [sq]
 go_loopg [3, 8] k (fun kq v3 v8 w' => ∃ (x3_1 : Int) (x8_1 : Int), v3 = .int .i64 x3_1 ∧ v8 = .int .i64 x8_1 ∧ Aside0 (interchangeref1_threes.l0 kq a0 x3_1 (a0.size : Int) x8_1 = some r) ∧ Aside0 (kq ≤ k) ∧ Drawn0 w w')
 case atStart => exact ⟨(0), (0), ar, ar, H', ⟨Nat.le_refl _⟩, dr⟩
 case round =>
  clear H'
  obtain ⟨x3_1, x8_1, rfl, rfl, HA, HK1, ⟨m1, rfl⟩⟩ := hrel
  cases gk with
  | zero => exact absurd HA.out (by simp [interchangeref1_threes.l0])
  | succ k1 =>
   have H := HA.out
   clear HA
   simp only [interchangeref1_threes.l0] at H
   by_cases c2 : x8_1 < (a0.size : Int)
   ·rw [if_pos c2] at H
    have c2b0 : decide (x8_1 < (a0.size : Int)) = true := decide_eq_true c2
    clear c2
    obtain ⟨ji3, hji3⟩ : ∃ j_ : Int, (wrap64 ((wrap64 ((a0.size : Int) - 1)) - x8_1)) = j_ := ⟨_, rfl⟩
    replace H : (if 0 ≤ (ji3) then (if (ji3) < (a0.size : Int) then (if (Int.tmod x8_1 2) = 1 then (interchangeref1_threes.l0 k1 a0 (wrap64 (x3_1 + ((((bt a0 (ji3)) - 48) % 256) * 3))) (a0.size : Int) (wrap64 (x8_1 + 1))) else (interchangeref1_threes.l0 k1 a0 (wrap64 (x3_1 + (((bt a0 (ji3)) - 48) % 256))) (a0.size : Int) (wrap64 (x8_1 + 1)))) else (none)) else (none)) = some r := by first | (rw [hji3] at H; exact H) | (simp only [hji3] at H ⊢; exact H)
    have hji3w : (IntKind.i64.wrap ((wrap64 ((a0.size : Int) - 1)) - x8_1)) = ji3 := (i64_w _).trans hji3
    by_cases c4 : 0 ≤ (ji3)
    ·rw [if_pos c4] at H
     have c4b0 : decide (0 ≤ (ji3)) = true := decide_eq_true c4
     clear c4
     by_cases c5 : (ji3) < (a0.size : Int)
     ·rw [if_pos c5] at H
      have c5b0 : decide ((ji3) < (a0.size : Int)) = true := decide_eq_true c5
      clear c5
      by_cases c7 : (Int.tmod x8_1 2) = 1
      ·rw [if_pos c7] at H
       have c7b0 : ((Int.tmod x8_1 2) == 1) = true := beq_iff_eq.mpr c7
       have c7b1 : ((Int.tmod x8_1 2) != 1) = false := bne_eq_false_iff_eq.mpr c7
       clear c7
       have H' := Aside0.mk H
       clear H
       have p6 : 0 ≤ ((ji3) : Int) := of_decide_eq_true (by assumption)
       have q6 : (ji3) < (a0.size : Int) := of_decide_eq_true (by assumption)
       have hx6 := bt_at a0 (ji3)
       replace p6 := eq_true p6
       replace q6 := eq_true q6
       go_wp2
       go_roundg k1
       case measure => have := HK1.out; omega
       case rel => exact ⟨(wrap64 (x3_1 + ((((bt a0 (ji3)) - 48) % 256) * 3))), (wrap64 (x8_1 + 1)), (by first | rfl | (simp; done) | (simp only [← hji3] <;> (first | rfl | simp)) | (simp [*]; done)), ar, H', ⟨by have := HK1.out; omega⟩, dr⟩
      ·rw [if_neg c7] at H
       have c7b0 : ((Int.tmod x8_1 2) == 1) = false := beq_eq_false_iff_ne.mpr c7
       have c7b1 : ((Int.tmod x8_1 2) != 1) = true := bne_iff_ne.mpr c7
       have H' := Aside0.mk H
       clear H
       have p6 : 0 ≤ ((ji3) : Int) := of_decide_eq_true (by assumption)
       have q6 : (ji3) < (a0.size : Int) := of_decide_eq_true (by assumption)
       have hx6 := bt_at a0 (ji3)
       replace p6 := eq_true p6
       replace q6 := eq_true q6
       go_wp2
       go_roundg k1
       case measure => have := HK1.out; omega
       case rel => exact ⟨(wrap64 (x3_1 + (((bt a0 (ji3)) - 48) % 256))), (wrap64 (x8_1 + 1)), (by first | rfl | (simp; done) | (simp only [← hji3] <;> (first | rfl | simp)) | (simp [*]; done)), ar, H', ⟨by have := HK1.out; omega⟩, dr⟩
     ·rw [if_neg c5] at H
      exact absurd H (by simp)
    ·rw [if_neg c4] at H
     exact absurd H (by simp)
   ·rw [if_neg c2] at H
    have c2b0 : decide (x8_1 < (a0.size : Int)) = false := decide_eq_false c2
    clear c2
    obtain rfl := Option.some.inj H
    go_wp2
    go_ret
    exact ⟨ar, dr⟩

-- NOT PRINTED: function 90 (interchangeref1_isLetters)

-- NOT PRINTED: function 91 (interchangeref1_remainder)

-- NOT PRINTED: function 92 (interchangeref1_values)

-- NOT PRINTED: function 93 (interchangeref1_taxDigit)

end Go.Proofs.YthgefhnolmloiaaGreatDoor.P3
