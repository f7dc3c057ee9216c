-- Made by a program of this session out of the translation (wip/pp.py): functions, contracts.
import Derived.Test.YthgefhnolmloiaaGreatDoorP3x0
import Derived.Test.YthgefhnolmloiaaGreatDoorP3x12
import Derived.Test.YthgefhnolmloiaaGreatDoorP3x16
import Derived.Test.YthgefhnolmloiaaGreatDoorP3x17
import Derived.Test.YthgefhnolmloiaaGreatDoorP3x18
namespace Go.Proofs.YthgefhnolmloiaaGreatDoor.P3
open Go.RowKit Go.Proofs.YthgefhnolmloiaaGreatDoorW.PrintWords Go.Proofs.YthgefhnolmloiaaGreatDoorW.PrintLast Go.Proofs.YthgefhnolmloiaaGreatDoorW.PrintMore
attribute [local go_sem] max2_int min2_int max_two min_two max_three min_three max_four min_four   -- for this text's walks alone
set_option linter.unusedVariables false
set_option linter.unusedSimpArgs false

/-! ### parcel_CheckAdvice: function 7 -/
mutual
def parcel_CheckAdvice.j0 : Nat → Bool → ByteArray → ByteArray → Int → List (S42) → Option (Int)
 | 0, _, _, _, _, _ => none
 | k + 1, x5, x417000, x417001, x417002, x417003 => if x5 = true then (some 5) else ((kit_IsDay.f x417002).bind fun t419 => (if t419 = true then (if (x417003.length : Int) > 500 then (some 2) else (parcel_CheckAdvice.l0 k (x417003.length : Int) 0 x417000 x417001 x417002 x417003)) else (some 1)))
def parcel_CheckAdvice.l0 : Nat → Int → Int → ByteArray → ByteArray → Int → List (S42) → Option (Int)
 | 0, _, _, _, _, _, _ => none
 | k + 1, x28, x29, x417000, x417001, x417002, x417003 => if x29 < x28 then ((parcel_parcelFault.f k x417003 x29).bind fun t420 => (if t420 = 0 then (parcel_CheckAdvice.l0 k x28 (wrap64 (x29 + 1)) x417000 x417001 x417002 x417003) else (some t420))) else ((parcel_nestFault.f k x417000 x417001 x417002 x417003).bind fun t421 => (some t421))
end
def parcel_CheckAdvice.f (k : Nat) (a0_0 : ByteArray) (a0_1 : ByteArray) (a0_2 : Int) (l0_3 : List (S42)) : Option (Int) := (kit_IsName.f a0_0).bind fun t417 => (if t417 = true then ((kit_IsName.f a0_1).bind fun t418 => (parcel_CheckAdvice.j0 k (!t418) a0_0 a0_1 a0_2 l0_3)) else (parcel_CheckAdvice.j0 k true a0_0 a0_1 a0_2 l0_3))
theorem parcel_CheckAdvice.mono_l : ∀ k, (∀ y0 y1 y2 y3 y4, LeO (parcel_CheckAdvice.j0 k y0 y1 y2 y3 y4) (parcel_CheckAdvice.j0 (k + 1) y0 y1 y2 y3 y4)) ∧ (∀ y0 y1 y2 y3 y4 y5, LeO (parcel_CheckAdvice.l0 k y0 y1 y2 y3 y4 y5) (parcel_CheckAdvice.l0 (k + 1) y0 y1 y2 y3 y4 y5))
 | 0 => ⟨fun _ _ _ _ _ r h => by simp [parcel_CheckAdvice.j0] at h, fun _ _ _ _ _ _ r h => by simp [parcel_CheckAdvice.l0] at h⟩
 | k + 1 => by
  obtain ⟨ih0, ih1⟩ := parcel_CheckAdvice.mono_l k
  refine ⟨?_, ?_⟩
  ·intro y0 y1 y2 y3 y4
   unfold parcel_CheckAdvice.j0
   repeat' first | with_reducible first | exact ih0 _ _ _ _ _ | exact ih1 _ _ _ _ _ _ | exact parcel_nestFault.mono _ _ _ _ _ | exact parcel_parcelFault.mono _ _ _ | exact lr _ | exact ln _ | refine li ?_ ?_ | refine lb ?_ fun _ => ?_ | exact ih0 _ _ _ _ _ | exact ih1 _ _ _ _ _ _ | exact parcel_nestFault.mono _ _ _ _ _ | exact parcel_parcelFault.mono _ _ _ | exact ln _ | refine li ?_ ?_ | refine lb ?_ fun _ => ?_
  ·intro y0 y1 y2 y3 y4 y5
   unfold parcel_CheckAdvice.l0
   repeat' first | with_reducible first | exact ih0 _ _ _ _ _ | exact ih1 _ _ _ _ _ _ | exact parcel_nestFault.mono _ _ _ _ _ | exact parcel_parcelFault.mono _ _ _ | exact lr _ | exact ln _ | refine li ?_ ?_ | refine lb ?_ fun _ => ?_ | exact ih0 _ _ _ _ _ | exact ih1 _ _ _ _ _ _ | exact parcel_nestFault.mono _ _ _ _ _ | exact parcel_parcelFault.mono _ _ _ | exact ln _ | refine li ?_ ?_ | refine lb ?_ fun _ => ?_
theorem parcel_CheckAdvice.mono : ∀ a0 a1 a2 a3 k, LeO (parcel_CheckAdvice.f k a0 a1 a2 a3) (parcel_CheckAdvice.f (k + 1) a0 a1 a2 a3) := by
 intro a0 a1 a2 a3 k
 obtain ⟨ih0, ih1⟩ := parcel_CheckAdvice.mono_l k
 unfold parcel_CheckAdvice.f
 repeat' first | with_reducible first | exact ih0 _ _ _ _ _ | exact ih1 _ _ _ _ _ _ | exact parcel_nestFault.mono _ _ _ _ _ | exact parcel_parcelFault.mono _ _ _ | exact lr _ | exact ln _ | refine li ?_ ?_ | refine lb ?_ fun _ => ?_ | exact ih0 _ _ _ _ _ | exact ih1 _ _ _ _ _ _ | exact parcel_nestFault.mono _ _ _ _ _ | exact parcel_parcelFault.mono _ _ _ | exact ln _ | refine li ?_ ?_ | refine lb ?_ fun _ => ?_
set_option maxHeartbeats 8000000 in
set_option maxRecDepth 100000 in
theorem parcel_CheckAdvice.calls (k : Nat) (a0_0 : ByteArray) (a0_1 : ByteArray) (a0_2 : Int) (A0_3 : Option Addr) (c0_3 : Nat) (l0_3 : List (S42)) (r : Int) (w : World) (hr0_3 : Kd.C k42 w A0_3 l0_3.length l0_3) (hc0_3 : l0_3.length ≤ c0_3) (h : parcel_CheckAdvice.f k a0_0 a0_1 a0_2 l0_3 = some r) :
  Calls Tryz.prog 7 #[.agg #[.string a0_0, .string a0_1, .int .i64 a0_2, .slice A0_3 l0_3.length c0_3]] w fun e w' => e = .returned (.int .i64 r) ∧ Below w.heap.size w w' := by
 have hu24 := Tryz.underlying24
 have HR0_3 := Aside0.mk hr0_3
 have HC0_3 := Aside0.mk hc0_3
 clear hr0_3 hc0_3
 have HB := Aside0.mk (Below.refl w.heap.size w)
 have H := h
 unfold parcel_CheckAdvice.f at H
 clear h
 have HC2 := Aside0.mk H
 clear H
 go_enter Tryz.func7, Tryz.ntmps7
 go_upto_region 1 with (first | ((with_reducible refine gD 1 rfl ?_); refine bx w 1 #[.string a0_0, .string a0_1, .int .i64 a0_2, .slice A0_3 l0_3.length c0_3] 24 ?_; intro gb416 hg w3 hb BK416 GW416 GE416; clear HB; intro HB; clear hb hg))
 (try simp only [sq])
 go_cut [5] (fun v5 wc => ∃ (kq : Nat) (x5_1 : Bool), v5 = .bool x5_1 ∧ Aside0 (parcel_CheckAdvice.j0 kq x5_1 a0_0 a0_1 a0_2 l0_3 = some r) ∧ Aside0 (kq ≤ k) ∧ Aside0 (wc.heap[gb416]? = some (.cells #[.string a0_0, .string a0_1, .int .i64 a0_2, (.slice A0_3 l0_3.length c0_3)] 24 (0, 0))) ∧ Aside0 (Below w.heap.size w wc))
 case first =>
  have H := HC2.out
  clear HC2
  replace H := Option.bind_eq_some_iff.mp H
  obtain ⟨t417, A40, H⟩ := H
  try dsimp only at H
  have A4 := Aside0.mk A40
  clear A40
  by_cases c5 : t417 = true
  ·subst c5
   have H1 : ((kit_IsName.f a0_1).bind fun t418 => (parcel_CheckAdvice.j0 k (!t418) a0_0 a0_1 a0_2 l0_3)) = some r := by rw [if_pos rfl] at H; exact H
   clear H
   have H := H1
   clear H1
   replace H := Option.bind_eq_some_iff.mp H
   obtain ⟨t418, A60, H⟩ := H
   try dsimp only at H
   have A6 := Aside0.mk A60
   clear A60
   have H' := Aside0.mk H
   clear H
   obtain ⟨hcz7_0, hcz7_1, hcz7_2, hcz7_3, hfz7_0, hfz7_1, hfz7_2, hfz7_3⟩ := cz4 BK416
   go_wp2_with (first | ((with_reducible refine gC 23 rfl ?_); refine gl_ 8 Tryz.func23 #[.string a0_0] ?_; (with_reducible refine (kit_IsName.calls a0_0 true _ A4.out).mono ?_); rintro e w8 ⟨rfl, hb⟩; refine ⟨_, rfl, ?_⟩; replace BK416 := bb BK416 hb; replace HB := hs w hb; (try clear hb); obtain ⟨hcz9_0, hcz9_1, hcz9_2, hcz9_3, hfz9_0, hfz9_1, hfz9_2, hfz9_3⟩ := cz4 BK416) | (go_at_call 23; (with_reducible refine (kit_IsName.calls a0_1 t418 _ A6.out).mono ?_); rintro e w10 ⟨rfl, hb⟩; replace BK416 := bb BK416 hb; replace HB := hs w hb; (try clear hb)))
   go_meet
   case rel => exact ⟨_, (!t418), ar, H', ⟨by first | omega | exact Nat.le_refl _⟩, ⟨(zk BK416)⟩, ⟨(zb w)⟩⟩
  ·replace c5 := Bool.eq_false_iff.mpr c5
   subst c5
   have H1 : (parcel_CheckAdvice.j0 k true a0_0 a0_1 a0_2 l0_3) = some r := by rw [if_neg (show ¬ (false = true) by decide)] at H; exact H
   clear H
   have H := H1
   clear H1
   have H' := Aside0.mk H
   clear H
   obtain ⟨hcz11_0, hcz11_1, hcz11_2, hcz11_3, hfz11_0, hfz11_1, hfz11_2, hfz11_3⟩ := cz4 BK416
   go_wp2_with (first | ((with_reducible refine gC 23 rfl ?_); refine gl_ 8 Tryz.func23 #[.string a0_0] ?_; (with_reducible refine (kit_IsName.calls a0_0 false _ A4.out).mono ?_); rintro e w12 ⟨rfl, hb⟩; refine ⟨_, rfl, ?_⟩; replace BK416 := bb BK416 hb; replace HB := hs w hb; (try clear hb)))
   go_meet
   case rel => exact ⟨_, (true), ar, H', ⟨by first | omega | exact Nat.le_refl _⟩, ⟨(zk BK416)⟩, ⟨(zb w)⟩⟩
 case rest =>
  clear HC2
  try clear c2
  try clear p2
  try clear c5
  try clear c7
  try clear hcz11_0 hcz11_1 hcz11_2 hcz11_3
  try clear hcz7_0 hcz7_1 hcz7_2 hcz7_3
  try clear hcz9_0 hcz9_1 hcz9_2 hcz9_3
  try clear hfz11_0 hfz11_1 hfz11_2 hfz11_3
  try clear hfz7_0 hfz7_1 hfz7_2 hfz7_3
  try clear hfz9_0 hfz9_1 hfz9_2 hfz9_3
  obtain ⟨kq, x5_1, rfl, HA, HJ1, BK416, HB⟩ := hcut
  cases kq with
  | zero => exact absurd HA.out (by simp [parcel_CheckAdvice.j0])
  | succ kj1 =>
   have H := HA.out
   clear HA
   simp only [parcel_CheckAdvice.j0] at H
   by_cases c13 : x5_1 = true
   ·subst c13
    have H1 : (some 5) = some r := by rw [if_pos rfl] at H; exact H
    clear H
    have H := H1
    clear H1
    obtain rfl := Option.some.inj H
    go_wp2
    go_ret
    exact ⟨by first | rfl | (simp [errW_none, errW_some] <;> rfl) | (simp [*, errW_none, errW_some] <;> rfl), (zb w)⟩
   ·replace c13 := Bool.eq_false_iff.mpr c13
    subst c13
    have H1 : ((kit_IsDay.f a0_2).bind fun t419 => (if t419 = true then (if (l0_3.length : Int) > 500 then (some 2) else (parcel_CheckAdvice.l0 kj1 (l0_3.length : Int) 0 a0_0 a0_1 a0_2 l0_3)) else (some 1))) = some r := by rw [if_neg (show ¬ (false = true) by decide)] at H; exact H
    clear H
    have H := H1
    clear H1
    replace H := Option.bind_eq_some_iff.mp H
    obtain ⟨t419, A140, H⟩ := H
    try dsimp only at H
    have A14 := Aside0.mk A140
    clear A140
    by_cases c15 : t419 = true
    ·subst c15
     have H1 : (if (l0_3.length : Int) > 500 then (some 2) else (parcel_CheckAdvice.l0 kj1 (l0_3.length : Int) 0 a0_0 a0_1 a0_2 l0_3)) = some r := by rw [if_pos rfl] at H; exact H
     clear H
     have H := H1
     clear H1
     by_cases c16 : (l0_3.length : Int) > 500
     ·rw [if_pos c16] at H
      have c16b0 : decide (500 < (l0_3.length : Int)) = true := decide_eq_true c16
      have c16b1 : decide (500 < l0_3.length) = true := decide_eq_true (by omega)
      clear c16
      obtain rfl := Option.some.inj H
      obtain ⟨hcz17_0, hcz17_1, hcz17_2, hcz17_3, hfz17_0, hfz17_1, hfz17_2, hfz17_3⟩ := cz4 BK416
      go_wp2_with (first | ((with_reducible refine gC 24 rfl ?_); refine gl_ 19 Tryz.func24 #[.int .i64 a0_2] ?_; (with_reducible refine (kit_IsDay.calls a0_2 true _ A14.out).mono ?_); rintro e w' ⟨rfl, ⟨nd, rfl⟩⟩; refine ⟨_, rfl, ?_⟩))
      go_ret
      exact ⟨by first | rfl | (simp [errW_none, errW_some] <;> rfl) | (simp [*, errW_none, errW_some] <;> rfl), (zb w)⟩
     ·rw [if_neg c16] at H
      have c16b0 : decide (500 < (l0_3.length : Int)) = false := decide_eq_false c16
      have c16b1 : decide (500 < l0_3.length) = false := decide_eq_false (by omega)
      clear c16
      have H' := Aside0.mk H
      clear H
      obtain ⟨hcz18_0, hcz18_1, hcz18_2, hcz18_3, hfz18_0, hfz18_1, hfz18_2, hfz18_3⟩ := cz4 BK416
      go_wp2_with (first | ((with_reducible refine gC 24 rfl ?_); refine gl_ 19 Tryz.func24 #[.int .i64 a0_2] ?_; (with_reducible refine (kit_IsDay.calls a0_2 true _ A14.out).mono ?_); rintro e w' ⟨rfl, ⟨nd, rfl⟩⟩; refine ⟨_, rfl, ?_⟩))
      try simp only [sq]
      go_loopg [29] kj1 (fun kq v29 w' => ∃ (x29_2 : Int), v29 = .int .i64 x29_2 ∧ Aside0 (parcel_CheckAdvice.l0 kq (l0_3.length : Int) x29_2 a0_0 a0_1 a0_2 l0_3 = some r) ∧ Aside0 (kq ≤ kj1) ∧ Aside0 (w'.heap[gb416]? = some (.cells #[.string a0_0, .string a0_1, .int .i64 a0_2, (.slice A0_3 l0_3.length c0_3)] 24 (0, 0))) ∧ Aside0 (Below w.heap.size w w'))
      case atStart => exact ⟨(0), ar, H', ⟨Nat.le_refl _⟩, ⟨(zk BK416)⟩, ⟨(zb w)⟩⟩
      case round =>
       clear H'
       try clear c1
       try clear c2
       try clear p2
       try clear c5
       try clear c7
       try clear c13
       try clear c15
       try clear c16
       try clear c16b0
       try clear c16b1
       try clear hcz11_0 hcz11_1 hcz11_2 hcz11_3
       try clear hcz17_0 hcz17_1 hcz17_2 hcz17_3
       try clear hcz18_0 hcz18_1 hcz18_2 hcz18_3
       try clear hcz7_0 hcz7_1 hcz7_2 hcz7_3
       try clear hcz9_0 hcz9_1 hcz9_2 hcz9_3
       try clear hfz11_0 hfz11_1 hfz11_2 hfz11_3
       try clear hfz17_0 hfz17_1 hfz17_2 hfz17_3
       try clear hfz18_0 hfz18_1 hfz18_2 hfz18_3
       try clear hfz7_0 hfz7_1 hfz7_2 hfz7_3
       try clear hfz9_0 hfz9_1 hfz9_2 hfz9_3
       try clear p2
       obtain ⟨x29_2, rfl, HA, HK2, BK416, HB⟩ := hrel
       cases gk with
       | zero => exact absurd HA.out (by simp [parcel_CheckAdvice.l0])
       | succ k2 =>
        have H := HA.out
        clear HA
        simp only [parcel_CheckAdvice.l0] at H
        by_cases c19 : x29_2 < (l0_3.length : Int)
        ·rw [if_pos c19] at H
         have c19b0 : decide (x29_2 < (l0_3.length : Int)) = true := decide_eq_true c19
         clear c19
         replace H := Option.bind_eq_some_iff.mp H
         obtain ⟨t420, A200, H⟩ := H
         try dsimp only at H
         have A20 := Aside0.mk A200
         clear A200
         by_cases c21 : t420 = 0
         ·rw [if_pos c21] at H
          have c21b0 : (t420 == 0) = true := beq_iff_eq.mpr c21
          have c21b1 : (t420 != 0) = false := bne_eq_false_iff_eq.mpr c21
          clear c21
          have H' := Aside0.mk H
          clear H
          obtain ⟨hcz22_0, hcz22_1, hcz22_2, hcz22_3, hfz22_0, hfz22_1, hfz22_2, hfz22_3⟩ := cz4 BK416
          go_wp2_with (first | ((with_reducible refine gC 25 rfl ?_); refine gl_ 35 Tryz.func25 #[.slice A0_3 l0_3.length c0_3, .int .i64 x29_2] ?_; (with_reducible refine (parcel_parcelFault.calls k2 _ _ l0_3 x29_2 t420 _ (zc HR0_3) HC0_3.out A20.out).mono ?_); rintro e w23 ⟨rfl, hb⟩; refine ⟨_, rfl, ?_⟩; replace BK416 := bb BK416 hb; replace HB := hs w hb; (try clear hb)))
          go_roundg k2
          case measure => have := HJ1.out; have := HK2.out; omega
          case rel => exact ⟨(wrap64 (x29_2 + 1)), ar, H', ⟨by have := HJ1.out; have := HK2.out; omega⟩, ⟨(zk BK416)⟩, ⟨(zb w)⟩⟩
         ·rw [if_neg c21] at H
          have c21b0 : (t420 == 0) = false := beq_eq_false_iff_ne.mpr c21
          have c21b1 : (t420 != 0) = true := bne_iff_ne.mpr c21
          obtain rfl := Option.some.inj H
          obtain ⟨hcz24_0, hcz24_1, hcz24_2, hcz24_3, hfz24_0, hfz24_1, hfz24_2, hfz24_3⟩ := cz4 BK416
          go_wp2_with (first | ((with_reducible refine gC 25 rfl ?_); refine gl_ 35 Tryz.func25 #[.slice A0_3 l0_3.length c0_3, .int .i64 x29_2] ?_; (with_reducible refine (parcel_parcelFault.calls k2 _ _ l0_3 x29_2 t420 _ (zc HR0_3) HC0_3.out A20.out).mono ?_); rintro e w25 ⟨rfl, hb⟩; refine ⟨_, rfl, ?_⟩; replace BK416 := bb BK416 hb; replace HB := hs w hb; (try clear hb)))
          go_ret
          exact ⟨by first | rfl | (simp [errW_none, errW_some] <;> rfl) | (simp [*, errW_none, errW_some] <;> rfl), (zb w)⟩
        ·rw [if_neg c19] at H
         have c19b0 : decide (x29_2 < (l0_3.length : Int)) = false := decide_eq_false c19
         clear c19
         replace H := Option.bind_eq_some_iff.mp H
         obtain ⟨t421, A260, H⟩ := H
         try dsimp only at H
         have A26 := Aside0.mk A260
         clear A260
         obtain rfl := Option.some.inj H
         obtain ⟨hcz27_0, hcz27_1, hcz27_2, hcz27_3, hfz27_0, hfz27_1, hfz27_2, hfz27_3⟩ := cz4 BK416
         go_wp2_with (first | ((with_reducible refine gC 26 rfl ?_); refine gl_ 41 Tryz.func26 #[.agg #[.string a0_0, .string a0_1, .int .i64 a0_2, .slice A0_3 l0_3.length c0_3]] ?_; (with_reducible refine (parcel_nestFault.calls k2 a0_0 a0_1 a0_2 _ _ l0_3 t421 _ (zc HR0_3) HC0_3.out A26.out).mono ?_); rintro e w28 ⟨rfl, hb⟩; refine ⟨_, rfl, ?_⟩; replace BK416 := bb BK416 hb; replace HB := hs w hb; (try clear hb)))
         go_ret
         exact ⟨by first | rfl | (simp [errW_none, errW_some] <;> rfl) | (simp [*, errW_none, errW_some] <;> rfl), (zb w)⟩
    ·replace c15 := Bool.eq_false_iff.mpr c15
     subst c15
     have H1 : (some 1) = some r := by rw [if_neg (show ¬ (false = true) by decide)] at H; exact H
     clear H
     have H := H1
     clear H1
     obtain rfl := Option.some.inj H
     obtain ⟨hcz29_0, hcz29_1, hcz29_2, hcz29_3, hfz29_0, hfz29_1, hfz29_2, hfz29_3⟩ := cz4 BK416
     go_wp2_with (first | ((with_reducible refine gC 24 rfl ?_); refine gl_ 19 Tryz.func24 #[.int .i64 a0_2] ?_; (with_reducible refine (kit_IsDay.calls a0_2 false _ A14.out).mono ?_); rintro e w' ⟨rfl, ⟨nd, rfl⟩⟩; refine ⟨_, rfl, ?_⟩))
     go_ret
     exact ⟨by first | rfl | (simp [errW_none, errW_some] <;> rfl) | (simp [*, errW_none, errW_some] <;> rfl), (zb w)⟩

/-! ### parcel_labelFault: function 15 -/
def parcel_labelFault.f (k : Nat) (a0_0 : ByteArray) (a0_1 : ByteArray) (a0_2 : Int) (l0_3 : List (S42)) (a1 : ByteArray) (a2 : Bool) : Option (Int) := (parcel_CheckAdvice.f k a0_0 a0_1 a0_2 l0_3).bind fun t423 => (if t423 = 0 then ((parcel_parcelAt.f k a0_0 a0_1 a0_2 l0_3 a1).bind fun bt424 => (if bt424.2 = true then (some 0) else (if a2 = true then (if (a1.toList = ([] : List UInt8)) then (some 0) else (some 9)) else (some 9)))) else (some t423))
theorem parcel_labelFault.mono : ∀ a0 a1 a2 a3 a4 a5 k, LeO (parcel_labelFault.f k a0 a1 a2 a3 a4 a5) (parcel_labelFault.f (k + 1) a0 a1 a2 a3 a4 a5) := by
 intro a0 a1 a2 a3 a4 a5 k
 unfold parcel_labelFault.f
 repeat' first | with_reducible first | exact parcel_CheckAdvice.mono _ _ _ _ _ | exact parcel_parcelAt.mono _ _ _ _ _ _ | exact lr _ | exact ln _ | refine li ?_ ?_ | refine lb ?_ fun _ => ?_ | exact parcel_CheckAdvice.mono _ _ _ _ _ | exact parcel_parcelAt.mono _ _ _ _ _ _ | exact ln _ | refine li ?_ ?_ | refine lb ?_ fun _ => ?_
set_option maxHeartbeats 8000000 in
set_option maxRecDepth 100000 in
theorem parcel_labelFault.calls (k : Nat) (a0_0 : ByteArray) (a0_1 : ByteArray) (a0_2 : Int) (A0_3 : Option Addr) (c0_3 : Nat) (l0_3 : List (S42)) (a1 : ByteArray) (a2 : Bool) (r : Int) (w : World) (hr0_3 : Kd.C k42 w A0_3 l0_3.length l0_3) (hc0_3 : l0_3.length ≤ c0_3) (h : parcel_labelFault.f k a0_0 a0_1 a0_2 l0_3 a1 a2 = some r) :
  Calls Tryz.prog 15 #[.agg #[.string a0_0, .string a0_1, .int .i64 a0_2, .slice A0_3 l0_3.length c0_3], .string a1, .bool a2] w fun e w' => e = .returned (.int .i64 r) ∧ Below w.heap.size w w' := by
 have hu24 := Tryz.underlying24
 have HR0_3 := Aside0.mk hr0_3
 have HC0_3 := Aside0.mk hc0_3
 clear hr0_3 hc0_3
 have HB := Aside0.mk (Below.refl w.heap.size w)
 have H := h
 unfold parcel_labelFault.f at H
 clear h
 replace H := Option.bind_eq_some_iff.mp H
 obtain ⟨t423, A40, H⟩ := H
 try dsimp only at H
 have A4 := Aside0.mk A40
 clear A40
 by_cases c5 : t423 = 0
 ·rw [if_pos c5] at H
  have c5b0 : (t423 == 0) = true := beq_iff_eq.mpr c5
  have c5b1 : (t423 != 0) = false := bne_eq_false_iff_eq.mpr c5
  clear c5
  replace H := Option.bind_eq_some_iff.mp H
  obtain ⟨⟨t424, t425⟩, A60, H⟩ := H
  try dsimp only at H
  have A6 := Aside0.mk A60
  clear A60
  by_cases c7 : t425 = true
  ·subst c7
   have H1 : (some 0) = some r := by rw [if_pos rfl] at H; exact H
   clear H
   have H := H1
   clear H1
   obtain rfl := Option.some.inj H
   go_enter Tryz.func15, Tryz.ntmps15
   go_wp2_with (first | ((with_reducible refine gD 3 rfl ?_); refine bx w 3 #[.string a0_0, .string a0_1, .int .i64 a0_2, .slice A0_3 l0_3.length c0_3] 24 ?_; intro gb422 hg w8 hb BK422 GW422 GE422; clear HB; intro HB; clear hb hg; obtain ⟨hcz9_0, hcz9_1, hcz9_2, hcz9_3, hfz9_0, hfz9_1, hfz9_2, hfz9_3⟩ := cz4 BK422) | ((with_reducible refine gC 7 rfl ?_); refine gl_ 11 Tryz.func7 #[.agg #[.string a0_0, .string a0_1, .int .i64 a0_2, .slice A0_3 l0_3.length c0_3]] ?_; (with_reducible refine (parcel_CheckAdvice.calls k a0_0 a0_1 a0_2 _ _ l0_3 t423 _ (zc HR0_3) HC0_3.out A4.out).mono ?_); rintro e w10 ⟨rfl, hb⟩; refine ⟨_, rfl, ?_⟩; replace BK422 := bb BK422 hb; replace HB := hs w hb; (try clear hb); obtain ⟨hcz11_0, hcz11_1, hcz11_2, hcz11_3, hfz11_0, hfz11_1, hfz11_2, hfz11_3⟩ := cz4 BK422) | ((with_reducible refine gC 29 rfl ?_); refine gl_ 18 Tryz.func29 #[.agg #[.string a0_0, .string a0_1, .int .i64 a0_2, .slice A0_3 l0_3.length c0_3], .string a1] ?_; (with_reducible refine (parcel_parcelAt.calls k a0_0 a0_1 a0_2 _ _ l0_3 a1 t424 true _ (zc HR0_3) HC0_3.out A6.out).mono ?_); rintro e w12 ⟨rfl, hb⟩; refine ⟨_, rfl, ?_⟩; replace BK422 := bb BK422 hb; replace HB := hs w hb; (try clear hb)))
   go_ret
   exact ⟨by first | rfl | (simp [errW_none, errW_some] <;> rfl) | (simp [*, errW_none, errW_some] <;> rfl), (zb w)⟩
  ·replace c7 := Bool.eq_false_iff.mpr c7
   subst c7
   have H1 : (if a2 = true then (if (a1.toList = ([] : List UInt8)) then (some 0) else (some 9)) else (some 9)) = some r := by rw [if_neg (show ¬ (false = true) by decide)] at H; exact H
   clear H
   have H := H1
   clear H1
   by_cases c13 : a2 = true
   ·subst c13
    have H1 : (if (a1.toList = ([] : List UInt8)) then (some 0) else (some 9)) = some r := by rw [if_pos rfl] at H; exact H
    clear H
    have H := H1
    clear H1
    by_cases c14 : (a1.toList = ([] : List UInt8))
    ·rw [if_pos c14] at H
     have c14b0 : (a1.toList == ([] : List UInt8)) = true := beq_iff_eq.mpr c14
     have c14b1 : (a1.toList != ([] : List UInt8)) = false := bne_eq_false_iff_eq.mpr c14
     clear c14
     obtain rfl := Option.some.inj H
     go_enter Tryz.func15, Tryz.ntmps15
     go_wp2_with (first | ((with_reducible refine gD 3 rfl ?_); refine bx w 3 #[.string a0_0, .string a0_1, .int .i64 a0_2, .slice A0_3 l0_3.length c0_3] 24 ?_; intro gb422 hg w15 hb BK422 GW422 GE422; clear HB; intro HB; clear hb hg; obtain ⟨hcz16_0, hcz16_1, hcz16_2, hcz16_3, hfz16_0, hfz16_1, hfz16_2, hfz16_3⟩ := cz4 BK422) | ((with_reducible refine gC 7 rfl ?_); refine gl_ 11 Tryz.func7 #[.agg #[.string a0_0, .string a0_1, .int .i64 a0_2, .slice A0_3 l0_3.length c0_3]] ?_; (with_reducible refine (parcel_CheckAdvice.calls k a0_0 a0_1 a0_2 _ _ l0_3 t423 _ (zc HR0_3) HC0_3.out A4.out).mono ?_); rintro e w17 ⟨rfl, hb⟩; refine ⟨_, rfl, ?_⟩; replace BK422 := bb BK422 hb; replace HB := hs w hb; (try clear hb); obtain ⟨hcz18_0, hcz18_1, hcz18_2, hcz18_3, hfz18_0, hfz18_1, hfz18_2, hfz18_3⟩ := cz4 BK422) | ((with_reducible refine gC 29 rfl ?_); refine gl_ 18 Tryz.func29 #[.agg #[.string a0_0, .string a0_1, .int .i64 a0_2, .slice A0_3 l0_3.length c0_3], .string a1] ?_; (with_reducible refine (parcel_parcelAt.calls k a0_0 a0_1 a0_2 _ _ l0_3 a1 t424 false _ (zc HR0_3) HC0_3.out A6.out).mono ?_); rintro e w19 ⟨rfl, hb⟩; refine ⟨_, rfl, ?_⟩; replace BK422 := bb BK422 hb; replace HB := hs w hb; (try clear hb)))
     go_ret
     exact ⟨by first | rfl | (simp [errW_none, errW_some] <;> rfl) | (simp [*, errW_none, errW_some] <;> rfl), (zb w)⟩
    ·rw [if_neg c14] at H
     have c14b0 : (a1.toList == ([] : List UInt8)) = false := beq_eq_false_iff_ne.mpr c14
     have c14b1 : (a1.toList != ([] : List UInt8)) = true := bne_iff_ne.mpr c14
     obtain rfl := Option.some.inj H
     go_enter Tryz.func15, Tryz.ntmps15
     go_wp2_with (first | ((with_reducible refine gD 3 rfl ?_); refine bx w 3 #[.string a0_0, .string a0_1, .int .i64 a0_2, .slice A0_3 l0_3.length c0_3] 24 ?_; intro gb422 hg w20 hb BK422 GW422 GE422; clear HB; intro HB; clear hb hg; obtain ⟨hcz21_0, hcz21_1, hcz21_2, hcz21_3, hfz21_0, hfz21_1, hfz21_2, hfz21_3⟩ := cz4 BK422) | ((with_reducible refine gC 7 rfl ?_); refine gl_ 11 Tryz.func7 #[.agg #[.string a0_0, .string a0_1, .int .i64 a0_2, .slice A0_3 l0_3.length c0_3]] ?_; (with_reducible refine (parcel_CheckAdvice.calls k a0_0 a0_1 a0_2 _ _ l0_3 t423 _ (zc HR0_3) HC0_3.out A4.out).mono ?_); rintro e w22 ⟨rfl, hb⟩; refine ⟨_, rfl, ?_⟩; replace BK422 := bb BK422 hb; replace HB := hs w hb; (try clear hb); obtain ⟨hcz23_0, hcz23_1, hcz23_2, hcz23_3, hfz23_0, hfz23_1, hfz23_2, hfz23_3⟩ := cz4 BK422) | ((with_reducible refine gC 29 rfl ?_); refine gl_ 18 Tryz.func29 #[.agg #[.string a0_0, .string a0_1, .int .i64 a0_2, .slice A0_3 l0_3.length c0_3], .string a1] ?_; (with_reducible refine (parcel_parcelAt.calls k a0_0 a0_1 a0_2 _ _ l0_3 a1 t424 false _ (zc HR0_3) HC0_3.out A6.out).mono ?_); rintro e w24 ⟨rfl, hb⟩; refine ⟨_, rfl, ?_⟩; replace BK422 := bb BK422 hb; replace HB := hs w hb; (try clear hb)))
     go_ret
     exact ⟨by first | rfl | (simp [errW_none, errW_some] <;> rfl) | (simp [*, errW_none, errW_some] <;> rfl), (zb w)⟩
   ·replace c13 := Bool.eq_false_iff.mpr c13
    subst c13
    have H1 : (some 9) = some r := by rw [if_neg (show ¬ (false = true) by decide)] at H; exact H
    clear H
    have H := H1
    clear H1
    obtain rfl := Option.some.inj H
    go_enter Tryz.func15, Tryz.ntmps15
    go_wp2_with (first | ((with_reducible refine gD 3 rfl ?_); refine bx w 3 #[.string a0_0, .string a0_1, .int .i64 a0_2, .slice A0_3 l0_3.length c0_3] 24 ?_; intro gb422 hg w25 hb BK422 GW422 GE422; clear HB; intro HB; clear hb hg; obtain ⟨hcz26_0, hcz26_1, hcz26_2, hcz26_3, hfz26_0, hfz26_1, hfz26_2, hfz26_3⟩ := cz4 BK422) | ((with_reducible refine gC 7 rfl ?_); refine gl_ 11 Tryz.func7 #[.agg #[.string a0_0, .string a0_1, .int .i64 a0_2, .slice A0_3 l0_3.length c0_3]] ?_; (with_reducible refine (parcel_CheckAdvice.calls k a0_0 a0_1 a0_2 _ _ l0_3 t423 _ (zc HR0_3) HC0_3.out A4.out).mono ?_); rintro e w27 ⟨rfl, hb⟩; refine ⟨_, rfl, ?_⟩; replace BK422 := bb BK422 hb; replace HB := hs w hb; (try clear hb); obtain ⟨hcz28_0, hcz28_1, hcz28_2, hcz28_3, hfz28_0, hfz28_1, hfz28_2, hfz28_3⟩ := cz4 BK422) | ((with_reducible refine gC 29 rfl ?_); refine gl_ 18 Tryz.func29 #[.agg #[.string a0_0, .string a0_1, .int .i64 a0_2, .slice A0_3 l0_3.length c0_3], .string a1] ?_; (with_reducible refine (parcel_parcelAt.calls k a0_0 a0_1 a0_2 _ _ l0_3 a1 t424 false _ (zc HR0_3) HC0_3.out A6.out).mono ?_); rintro e w29 ⟨rfl, hb⟩; refine ⟨_, rfl, ?_⟩; replace BK422 := bb BK422 hb; replace HB := hs w hb; (try clear hb)))
    go_ret
    exact ⟨by first | rfl | (simp [errW_none, errW_some] <;> rfl) | (simp [*, errW_none, errW_some] <;> rfl), (zb w)⟩
 ·rw [if_neg c5] at H
  have c5b0 : (t423 == 0) = false := beq_eq_false_iff_ne.mpr c5
  have c5b1 : (t423 != 0) = true := bne_iff_ne.mpr c5
  obtain rfl := Option.some.inj H
  go_enter Tryz.func15, Tryz.ntmps15
  go_wp2_with (first | ((with_reducible refine gD 3 rfl ?_); refine bx w 3 #[.string a0_0, .string a0_1, .int .i64 a0_2, .slice A0_3 l0_3.length c0_3] 24 ?_; intro gb422 hg w30 hb BK422 GW422 GE422; clear HB; intro HB; clear hb hg; obtain ⟨hcz31_0, hcz31_1, hcz31_2, hcz31_3, hfz31_0, hfz31_1, hfz31_2, hfz31_3⟩ := cz4 BK422) | ((with_reducible refine gC 7 rfl ?_); refine gl_ 11 Tryz.func7 #[.agg #[.string a0_0, .string a0_1, .int .i64 a0_2, .slice A0_3 l0_3.length c0_3]] ?_; (with_reducible refine (parcel_CheckAdvice.calls k a0_0 a0_1 a0_2 _ _ l0_3 t423 _ (zc HR0_3) HC0_3.out A4.out).mono ?_); rintro e w32 ⟨rfl, hb⟩; refine ⟨_, rfl, ?_⟩; replace BK422 := bb BK422 hb; replace HB := hs w hb; (try clear hb)))
  go_ret
  exact ⟨by first | rfl | (simp [errW_none, errW_some] <;> rfl) | (simp [*, errW_none, errW_some] <;> rfl), (zb w)⟩

/-! ### parcel_isWithin: function 16 -/
-- STUB rounds=1 making=1
def parcel_isWithin.f (k : Nat) (a0_0 : ByteArray) (a0_1 : ByteArray) (a0_2 : Int) (l0_3 : List (S42)) (a1 : Int) (a2 : ByteArray) : Option (Bool) := (parcel_around.f k a0_0 a0_1 a0_2 l0_3 a1).bind fun bt => if ((bt.1.all fun x => decide (0 ≤ x) && decide (x < (l0_3.length : Int))) = true ∧ bt.1.length < 4611686018427387904) then some (bt.1.any fun x => ((rd_T42 l0_3 x).f0).toList == a2.toList) else none
theorem parcel_isWithin.mono : ∀ a0_0 a0_1 a0_2 l0_3 a1 a2 k, LeO (parcel_isWithin.f k a0_0 a0_1 a0_2 l0_3 a1 a2) (parcel_isWithin.f (k + 1) a0_0 a0_1 a0_2 l0_3 a1 a2) := by
 intro a0_0 a0_1 a0_2 l0_3 a1 a2 k
 unfold parcel_isWithin.f
 exact LeO.bind (parcel_around.mono _ _ _ _ _ k) (fun _ => LeO.refl _)
theorem parcel_isWithin.pred (A0_3 : Option Addr) (c0_3 : Nat) (a0_0 : ByteArray) (a0_1 : ByteArray) (a0_2 : Int) (l0_3 : List (S42)) (a2 : ByteArray) (g1 g2 : Nat) (w : World) (hr0_3 : Kd.C k42 w A0_3 l0_3.length l0_3)
  (h1 : w.heap[g1]? = some (.cells #[.string a0_0, .string a0_1, .int .i64 a0_2, .slice A0_3 l0_3.length c0_3] 24)) (h2 : w.heap[g2]? = some (.cells #[.string a2] 9)) (W : World) (x : Int) (hb : Below w.heap.size w W) (hx0 : 0 ≤ x) (hx1 : x < (l0_3.length : Int)) :
  Calls Tryz.prog 35 #[.int .i64 x, .pointer (some ⟨g1, 0, none⟩), .pointer (some ⟨g2, 0, none⟩)] W fun e w' => e = .returned (.bool (((rd_T42 l0_3 x).f0).toList == a2.toList)) ∧ ∃ q, w' = W.drewN q := by
 have hg1 : g1 < w.heap.size := by
  by_cases hlt : g1 < w.heap.size
  ·exact hlt
  ·rw [Array.getElem?_eq_none (by omega)] at h1; cases h1
 have hg2 : g2 < w.heap.size := by
  by_cases hlt : g2 < w.heap.size
  ·exact hlt
  ·rw [Array.getElem?_eq_none (by omega)] at h2; cases h2
 have hc3 : W.cell? ⟨g1, 3, none⟩ = some (.slice A0_3 l0_3.length c0_3) := (hb.cell (p := ⟨g1, 3, none⟩) hg1).trans ((blk_cell h1 3).trans rfl)
 have hc0 : W.cell? ⟨g2, 0, none⟩ = some (.string a2) := (hb.cell (p := ⟨g2, 0, none⟩) hg2).trans ((blk_cell h2 0).trans rfl)
 obtain ⟨ad, A4, c4, e, hx_0, hx_1, hx_2, hx_3, hx_4, _, _⟩ := at_T42 (Kd.C_below hr0_3 hb) x hx0 hx1
 subst e
 clear hr0_3 h1 h2 hx_1 hx_2 hx_3 hx_4
 have p1 := eq_true hx0
 have p2 := eq_true hx1
 have hu1 := Tryz.underlying24
 have hu2 := Tryz.underlying42
 go_enter Tryz.func35, Tryz.ntmps35
 go_wp2
 go_quiet (fail)
 go_wp2
 go_ret
 exact ⟨rfl, _, rfl⟩
theorem parcel_isWithin.idx (A : Option Addr) (c : Nat) (l : List Int) (w : World) (p : Int → Bool) (v1 v2 : Value) (hr : Kd.C (Kd.int .i64) w A l.length l) (hlen : l.length < 4611686018427387904)
  (hp : ∀ (W : World) (x : Int), Below w.heap.size w W → x ∈ l → Calls Tryz.prog 35 #[.int .i64 x, v1, v2] W fun e w' => e = .returned (.bool (p x)) ∧ ∃ q, w' = W.drewN q) :
  Calls Tryz.prog 56 #[.slice A l.length c, .func (.func 35) #[] #[v1, v2]] w fun e w' => (∃ r : Int, e = .returned (.int .i64 r) ∧ decide (0 ≤ r) = l.any p) ∧ ∃ q, w' = w.drewN q := by
 have HR := Aside0.mk hr
 have HP := Aside0.mk hp
 clear hr hp
 go_enter Tryz.func56, Tryz.ntmps56
 go_wp2
 go_loopg [5, 8] l.length (fun gg _ s8 wr => ∃ kk q : Nat, kk ≤ l.length ∧ l.length - kk ≤ gg ∧ s8 = .int .i64 (kk : Int) ∧ wr = w.drewN q ∧ Aside0 (∀ j, j < kk → p (l.getD j 0) = false))
 case atStart => exact ⟨0, 0, Nat.zero_le _, by omega, rfl, rfl, ⟨fun j hj => absurd hj (Nat.not_lt_zero _)⟩⟩
 case round =>
  obtain ⟨kk, q, hkk, hg, rfl, rfl, A1⟩ := hrel
  by_cases hlt : kk < l.length
  ·have hltz : (kk : Int) < (l.length : Int) := by omega
   obtain ⟨ad, e, hcell⟩ := Kd.at_int HR.out (kk : Int) (by omega) hltz
   subst e
   rw [Int.toNat_natCast] at hcell
   have hcall := HP.out (w.drewN q) (rd l (kk : Int)) (pw_below_drewN (Below.refl _ w) q) (by unfold rd; simp [hlt])
   clear HP
   generalize hy : rd l (kk : Int) = y at hcell hcall
   have B1 : Aside0 (rd l (kk : Int) = y) := ⟨hy⟩
   clear hy
   cases hq : p y with
   | true =>
    rw [hq] at hcall
    go_wp2_with (go_at_call 35; refine hcall.mono ?_; rintro e w' ⟨rfl, q', rfl⟩)
    go_ret
    refine ⟨⟨(kk : Int), rfl, ?_⟩, _, rfl⟩
    rw [decide_eq_true (show (0 : Int) ≤ (kk : Int) by omega)]
    symm
    rw [List.any_eq_true]
    refine ⟨y, ?_, hq⟩
    rw [← B1.out]
    unfold rd
    simp [hlt]
   | false =>
    rw [hq] at hcall
    go_wp2_with (go_at_call 35; refine hcall.mono ?_; rintro e w' ⟨rfl, q', rfl⟩)
    go_roundg (l.length - (kk + 1))
    case measure => omega
    case rel =>
     refine ⟨kk + 1, _, by omega, by omega, by go_num, rfl, ⟨fun j hj => ?_⟩⟩
     by_cases e : j = kk
     ·subst e
      have := B1.out
      unfold rd at this
      rw [Int.toNat_natCast] at this
      rw [this]
      exact hq
     ·exact A1.out j (by omega)
  ·have hltz : ¬ (kk : Int) < (l.length : Int) := by omega
   have : kk = l.length := by omega
   subst this
   go_wp2
   go_ret
   refine ⟨⟨-1, rfl, ?_⟩, _, rfl⟩
   symm
   rw [show decide ((0 : Int) ≤ -1) = false from rfl, List.any_eq_false]
   intro x hx
   obtain ⟨j, hj, rfl⟩ := List.getElem_of_mem hx
   have := A1.out j hj
   rw [List.getD_eq_getElem?_getD, List.getElem?_eq_getElem hj] at this
   simpa using this
theorem parcel_isWithin.cont (A : Option Addr) (c : Nat) (l : List Int) (w : World) (p : Int → Bool) (v1 v2 : Value) (hr : Kd.C (Kd.int .i64) w A l.length l) (hlen : l.length < 4611686018427387904)
  (hp : ∀ (W : World) (x : Int), Below w.heap.size w W → x ∈ l → Calls Tryz.prog 35 #[.int .i64 x, v1, v2] W fun e w' => e = .returned (.bool (p x)) ∧ ∃ q, w' = W.drewN q) :
  Calls Tryz.prog 34 #[.slice A l.length c, .func (.func 35) #[] #[v1, v2]] w fun e w' => e = .returned (.bool (l.any p)) ∧ ∃ q, w' = w.drewN q := by
 have HI := parcel_isWithin.idx A c l w p v1 v2 hr hlen hp
 clear hr hp
 go_enter Tryz.func34, Tryz.ntmps34
 go_wp2_with (go_at_call 56; refine HI.mono ?_; rintro e w' ⟨⟨r, rfl, hr⟩, q, rfl⟩)
 go_ret
 exact ⟨by rw [← hr]; rfl, q, rfl⟩
theorem parcel_isWithin.pred2 (A0_3 : Option Addr) (c0_3 : Nat) (a0_0 : ByteArray) (a0_1 : ByteArray) (a0_2 : Int) (l0_3 : List (S42)) (a2 : ByteArray) (w w' : World) (hr0_3 : Kd.C k42 w A0_3 l0_3.length l0_3) (t1 : List Int) (hall : (t1.all fun x => decide (0 ≤ x) && decide (x < (l0_3.length : Int))) = true)
  (hB : Below ((w.alloc (.cells #[.string a0_0, .string a0_1, .int .i64 a0_2, .slice A0_3 l0_3.length c0_3] 24)).alloc (.cells #[.string a2] 9)).heap.size ((w.alloc (.cells #[.string a0_0, .string a0_1, .int .i64 a0_2, .slice A0_3 l0_3.length c0_3] 24)).alloc (.cells #[.string a2] 9)) w') (W : World) (x : Int) (hb : Below w'.heap.size w' W) (hx : x ∈ t1) :
  Calls Tryz.prog 35 #[.int .i64 x, .pointer (some ⟨w.heap.size, 0, none⟩), .pointer (some ⟨w.heap.size + 1, 0, none⟩)] W fun e w' => e = .returned (.bool (((rd_T42 l0_3 x).f0).toList == a2.toList)) ∧ ∃ q, w' = W.drewN q := by
 have hx2 := List.all_eq_true.1 hall x hx
 simp only [Bool.and_eq_true, decide_eq_true_eq] at hx2
 have h2 := blk_new (w.alloc (.cells #[.string a0_0, .string a0_1, .int .i64 a0_2, .slice A0_3 l0_3.length c0_3] 24)) (.cells #[.string a2] 9)
 have e : (w.alloc (.cells #[.string a0_0, .string a0_1, .int .i64 a0_2, .slice A0_3 l0_3.length c0_3] 24)).heap.size = w.heap.size + 1 := by simp
 rw [e] at h2
 exact parcel_isWithin.pred A0_3 c0_3 a0_0 a0_1 a0_2 l0_3 a2 _ _ w' (Kd.C_below (Kd.C_alloc (Kd.C_alloc hr0_3 _) _) hB) (blk_below (blk_alloc (blk_new _ _) _) hB) (blk_below h2 hB) W x hb hx2.1 hx2.2
theorem parcel_isWithin.calls (k : Nat) (a0_0 : ByteArray) (a0_1 : ByteArray) (a0_2 : Int) (A0_3 : Option Addr) (c0_3 : Nat) (l0_3 : List (S42)) (a1 : Int) (a2 : ByteArray) (r : Bool) (w : World) (hr0_3 : Kd.C k42 w A0_3 l0_3.length l0_3) (hc0_3 : l0_3.length ≤ c0_3) (h : parcel_isWithin.f k a0_0 a0_1 a0_2 l0_3 a1 a2 = some r) :
  Calls Tryz.prog 16 #[.agg #[.string a0_0, .string a0_1, .int .i64 a0_2, .slice A0_3 l0_3.length c0_3], .int .i64 a1, .string a2] w fun e w' => e = .returned (.bool r) ∧ Below w.heap.size w w' := by
 have H := h
 clear h
 unfold parcel_isWithin.f at H
 replace H := Option.bind_eq_some_iff.mp H
 obtain ⟨⟨t1, t2⟩, hA, H⟩ := H
 split at H
 case isFalse => cases H
 rename_i hcond
 obtain rfl := Option.some.inj H
 clear H
 obtain ⟨hall, hlen⟩ := hcond
 dsimp only at hall hlen ⊢
 have HR := Aside0.mk hr0_3
 have HC := Aside0.mk hc0_3
 clear hr0_3 hc0_3
 have HALL := Aside0.mk hall
 have HLEN := Aside0.mk hlen
 clear hall hlen
 have hu1 := Tryz.underlying24
 go_enter Tryz.func16, Tryz.ntmps16
 go_wp2_with (first
  | (go_at_call 30; refine (parcel_around.calls k a0_0 a0_1 a0_2 A0_3 c0_3 l0_3 a1 t1 t2 _ (Kd.C_alloc (Kd.C_alloc HR.out _) _) HC.out hA).mono ?_; rintro e w' ⟨v, rfl, hR, hB⟩; obtain ⟨A, c, rfl, hle, hC⟩ := Kd.R_reads hR; have HB := Aside0.mk hB; have HCC := Aside0.mk hC; clear hB hC hR)
  | (go_at_call 34; refine (parcel_isWithin.cont A c t1 _ (fun x => ((rd_T42 l0_3 x).f0).toList == a2.toList) _ _ HCC.out HLEN.out ?hp).mono ?_; (case hp => exact parcel_isWithin.pred2 A0_3 c0_3 a0_0 a0_1 a0_2 l0_3 a2 _ _ HR.out t1 HALL.out HB.out); rintro e w' ⟨rfl, q, rfl⟩))
 go_ret
 exact ⟨rfl, pw_below_drewN (below_step (below_alloc (below_alloc (Below.refl _ _) _) _) HB.out) _⟩

/-! ### parcel_Within: function 5 -/
def parcel_Within.l0 : Nat → ByteArray → List ByteArray → List (S42) → Int → Int → ByteArray → ByteArray → Int → List (S42) → Option (List ByteArray × Int)
 | 0, _, _, _, _, _, _, _, _, _ => none
 | k + 1, x1, x7, x17, x18, x19, x427000, x427001, x427002, x427003 => if x19 < x18 then (if 0 ≤ x19 then (if x19 < (x17.length : Int) then ((parcel_isWithin.f k x427000 x427001 x427002 x427003 x19 x1).bind fun t430 => (if t430 = true then (if x7.length < 8796093022208 then (parcel_Within.l0 k x1 (x7 ++ [(rd_T42 x17 x19).f0]) x17 x18 (wrap64 (x19 + 1)) x427000 x427001 x427002 x427003) else (none)) else (parcel_Within.l0 k x1 x7 x17 x18 (wrap64 (x19 + 1)) x427000 x427001 x427002 x427003))) else (none)) else (none)) else (some (x7, 0))
def parcel_Within.f (k : Nat) (a0_0 : ByteArray) (a0_1 : ByteArray) (a0_2 : Int) (l0_3 : List (S42)) (a1 : ByteArray) : Option (List ByteArray × Int) := (parcel_labelFault.f k a0_0 a0_1 a0_2 l0_3 a1 false).bind fun t427 => (if t427 = 0 then (parcel_Within.l0 k a1 ([] : List ByteArray) l0_3 (l0_3.length : Int) 0 a0_0 a0_1 a0_2 l0_3) else (some (([] : List ByteArray), t427)))
theorem parcel_Within.mono_l : ∀ k, (∀ y0 y1 y2 y3 y4 y5 y6 y7 y8, LeO (parcel_Within.l0 k y0 y1 y2 y3 y4 y5 y6 y7 y8) (parcel_Within.l0 (k + 1) y0 y1 y2 y3 y4 y5 y6 y7 y8))
 | 0 => fun _ _ _ _ _ _ _ _ _ r h => by simp [parcel_Within.l0] at h
 | k + 1 => by
  have ih0 := parcel_Within.mono_l k
  ·intro y0 y1 y2 y3 y4 y5 y6 y7 y8
   unfold parcel_Within.l0
   repeat' first | with_reducible first | exact ih0 _ _ _ _ _ _ _ _ _ | exact parcel_isWithin.mono _ _ _ _ _ _ _ | exact parcel_labelFault.mono _ _ _ _ _ _ _ | exact lr _ | exact ln _ | refine li ?_ ?_ | refine lb ?_ fun _ => ?_ | exact ih0 _ _ _ _ _ _ _ _ _ | exact parcel_isWithin.mono _ _ _ _ _ _ _ | exact parcel_labelFault.mono _ _ _ _ _ _ _ | exact ln _ | refine li ?_ ?_ | refine lb ?_ fun _ => ?_
theorem parcel_Within.mono : ∀ a0 a1 a2 a3 a4 k, LeO (parcel_Within.f k a0 a1 a2 a3 a4) (parcel_Within.f (k + 1) a0 a1 a2 a3 a4) := by
 intro a0 a1 a2 a3 a4 k
 have ih0 := parcel_Within.mono_l k
 unfold parcel_Within.f
 repeat' first | with_reducible first | exact ih0 _ _ _ _ _ _ _ _ _ | exact parcel_isWithin.mono _ _ _ _ _ _ _ | exact parcel_labelFault.mono _ _ _ _ _ _ _ | exact lr _ | exact ln _ | refine li ?_ ?_ | refine lb ?_ fun _ => ?_ | exact ih0 _ _ _ _ _ _ _ _ _ | exact parcel_isWithin.mono _ _ _ _ _ _ _ | exact parcel_labelFault.mono _ _ _ _ _ _ _ | exact ln _ | refine li ?_ ?_ | refine lb ?_ fun _ => ?_
set_option maxHeartbeats 8000000 in
set_option maxRecDepth 100000 in
theorem parcel_Within.calls (k : Nat) (a0_0 : ByteArray) (a0_1 : ByteArray) (a0_2 : Int) (A0_3 : Option Addr) (c0_3 : Nat) (l0_3 : List (S42)) (a1 : ByteArray) (r1 : List ByteArray) (r2 : Int) (w : World) (hr0_3 : Kd.C k42 w A0_3 l0_3.length l0_3) (hc0_3 : l0_3.length ≤ c0_3) (h : parcel_Within.f k a0_0 a0_1 a0_2 l0_3 a1 = some (r1, r2)) :
  Calls Tryz.prog 5 #[.agg #[.string a0_0, .string a0_1, .int .i64 a0_2, .slice A0_3 l0_3.length c0_3], .string a1] w fun e w' => ∃ v0_ : Value, e = .returned (.tuple #[v0_, .int .i64 r2]) ∧ Kd.R Kd.string 9 w' w.heap.size (fun _ => True) v0_ r1 ∧ Below w.heap.size w w' := by
 have hu24 := Tryz.underlying24
 have hu42 := Tryz.underlying42
 have HR0_3 := Aside0.mk hr0_3
 have HC0_3 := Aside0.mk hc0_3
 clear hr0_3 hc0_3
 have HB := Aside0.mk (Below.refl w.heap.size w)
 have H := h
 unfold parcel_Within.f at H
 clear h
 replace H := Option.bind_eq_some_iff.mp H
 obtain ⟨t427, A30, H⟩ := H
 try dsimp only at H
 have A3 := Aside0.mk A30
 clear A30
 by_cases c4 : t427 = 0
 ·rw [if_pos c4] at H
  have c4b0 : (t427 == 0) = true := beq_iff_eq.mpr c4
  have c4b1 : (t427 != 0) = false := bne_eq_false_iff_eq.mpr c4
  clear c4
  have H' := Aside0.mk H
  clear H
  go_enter Tryz.func5, Tryz.ntmps5
  go_wp2_with (first | ((with_reducible refine gD 2 rfl ?_); refine bx w 2 #[.string a0_0, .string a0_1, .int .i64 a0_2, .slice A0_3 l0_3.length c0_3] 24 ?_; intro gb426 hg w5 hb BK426 GW426 GE426; clear HB; intro HB; clear hb hg; obtain ⟨hcz6_0, hcz6_1, hcz6_2, hcz6_3, hfz6_0, hfz6_1, hfz6_2, hfz6_3⟩ := cz4 BK426) | ((with_reducible refine gC 15 rfl ?_); refine gl_ 12 Tryz.func15 #[.agg #[.string a0_0, .string a0_1, .int .i64 a0_2, .slice A0_3 l0_3.length c0_3], .string a1, .bool false] ?_; (with_reducible refine (parcel_labelFault.calls k a0_0 a0_1 a0_2 _ _ l0_3 a1 false t427 _ (zc HR0_3) HC0_3.out A3.out).mono ?_); rintro e w7 ⟨rfl, hb⟩; refine ⟨_, rfl, ?_⟩; replace BK426 := bb BK426 hb; replace HB := hs w hb; (try clear hb); obtain ⟨hcz8_0, hcz8_1, hcz8_2, hcz8_3, hfz8_0, hfz8_1, hfz8_2, hfz8_3⟩ := cz4 BK426))
  try simp only [sq]
  go_loopg [7, 19] k (fun kq v7 v19 w' => ∃ (x7_1 : List ByteArray) (x19_1 : Int), v19 = .int .i64 x19_1 ∧ Aside0 (parcel_Within.l0 kq a1 x7_1 l0_3 (l0_3.length : Int) x19_1 a0_0 a0_1 a0_2 l0_3 = some (r1, r2)) ∧ Aside0 (kq ≤ k) ∧ Aside0 (Kd.R Kd.string 9 w' w.heap.size (fun _ => True) v7 x7_1) ∧ Aside0 (w'.heap[gb426]? = some (.cells #[.string a0_0, .string a0_1, .int .i64 a0_2, (.slice A0_3 l0_3.length c0_3)] 24 (0, 0))) ∧ Aside0 (Below w.heap.size w w'))
  case atStart => exact ⟨(([] : List ByteArray)), (0), ar, H', ⟨Nat.le_refl _⟩, ⟨by first | exact Kd.R_nil _ _ _ _ _ | exact Kd.N_nil _ _ _ _ _ | exact Kd.V_nil _ _ _ _ _ | exact Kd.Q_nil _ _ _ _ _ | exact Kd.S_nil _ _ _ _ _⟩, ⟨(zk BK426)⟩, ⟨(zb w)⟩⟩
  case round =>
   clear H'
   try clear c1
   try clear p2
   try clear c4
   try clear c4b0
   try clear c4b1
   try clear c5
   try clear hcz6_0 hcz6_1 hcz6_2 hcz6_3
   try clear hcz8_0 hcz8_1 hcz8_2 hcz8_3
   try clear hfz6_0 hfz6_1 hfz6_2 hfz6_3
   try clear hfz8_0 hfz8_1 hfz8_2 hfz8_3
   obtain ⟨x7_1, x19_1, rfl, HA, HK1, HO_7, BK426, HB⟩ := hrel
   cases gk with
   | zero => exact absurd HA.out (by simp [parcel_Within.l0])
   | succ k1 =>
    have H := HA.out
    clear HA
    simp only [parcel_Within.l0] at H
    by_cases c9 : x19_1 < (l0_3.length : Int)
    ·rw [if_pos c9] at H
     have c9b0 : decide (x19_1 < (l0_3.length : Int)) = true := decide_eq_true c9
     clear c9
     by_cases c10 : 0 ≤ x19_1
     ·rw [if_pos c10] at H
      have c10b0 : decide (0 ≤ x19_1) = true := decide_eq_true c10
      clear c10
      by_cases c11 : x19_1 < (l0_3.length : Int)
      ·rw [if_pos c11] at H
       have c11b0 : decide (x19_1 < (l0_3.length : Int)) = true := decide_eq_true c11
       clear c11
       replace H := Option.bind_eq_some_iff.mp H
       obtain ⟨t430, A120, H⟩ := H
       try dsimp only at H
       have A12 := Aside0.mk A120
       clear A120
       by_cases c13 : t430 = true
       ·subst c13
        have H1 : (if x7_1.length < 8796093022208 then (parcel_Within.l0 k1 a1 (x7_1 ++ [(rd_T42 l0_3 x19_1).f0]) l0_3 (l0_3.length : Int) (wrap64 (x19_1 + 1)) a0_0 a0_1 a0_2 l0_3) else (none)) = some (r1, r2) := by rw [if_pos rfl] at H; exact H
        clear H
        have H := H1
        clear H1
        by_cases c14 : x7_1.length < 8796093022208
        ·rw [if_pos c14] at H
         have LMc14 := Aside0.mk c14
         clear c14
         obtain ⟨y431, hy431⟩ : ∃ y_ : List ByteArray, y_ = (x7_1 ++ [(rd_T42 l0_3 x19_1).f0]) := ⟨_, rfl⟩
         replace H : (parcel_Within.l0 k1 a1 y431 l0_3 (l0_3.length : Int) (wrap64 (x19_1 + 1)) a0_0 a0_1 a0_2 l0_3) = some (r1, r2) := by first | (rw [hy431]; with_reducible exact H) | (have H2_ := (Option.bind_some _ _).symm.trans H; rw [hy431]; with_reducible exact H2_) | (have H2_ := (Option.bind_some _ _).symm.trans H; with_reducible exact H2_) | with_reducible exact H | (rw [hy431]; exact H) | exact H
         have Ny431 := Aside0.mk hy431
         clear hy431
         have H' := Aside0.mk H
         clear H
         have p428 : 0 ≤ (x19_1 : Int) := of_decide_eq_true (by assumption)
         have q428 : x19_1 < (l0_3.length : Int) := of_decide_eq_true (by assumption)
         obtain ⟨ad428, A428_4, c428_4, e428, hx428_0, hx428_1, hx428_2, hx428_3, hx428_4, hl428_4, hi428_4⟩ := at_T42 HR0_3.out x19_1 p428 q428
         cases e428
         replace hx428_0 := hz HB hx428_0
         replace hx428_1 := hz HB hx428_1
         replace hx428_2 := hz HB hx428_2
         replace hx428_3 := hz HB hx428_3
         replace hx428_4 := hz HB hx428_4
         have HR428_4 := Aside0.mk hi428_4
         have HC428_4 := Aside0.mk hl428_4
         clear hi428_4 hl428_4
         replace p428 := eq_true p428
         replace q428 := eq_true q428
         go_wp2_with (first | ((with_reducible refine gD 9 rfl ?_); refine box_event ?hg (N := 9) ?hd (cs := #[.string (⟨#[]⟩ : ByteArray), .string (⟨#[]⟩ : ByteArray), .int .i64 0, .int .i64 0, .slice none 0 0]) (t := 42) ?hr ?_; (case hd => rfl); (case hg => rfl); (case hr => first | (go_simp; done) | (go_simp; rfl)); intro gb429 hg w15 hbox hb; replace HO_7 := rb HO_7 hb; have BK429 := Aside0.mk (hbox); have GW429 := Aside0.mk ((by rw [hg]; exact (below_size (zb w)) : w.heap.size ≤ gb429)); have GE429 := Aside0.mk ((by rw [hg]; exact (below_size (zb w)) : w.heap.size ≤ gb429)); replace HB := hs w hb; have NB426_429 := nbl BK426 hg; have NB429_426 := nbr BK426 hg; replace BK426 := bb BK426 hb; clear hb hg; have hnb16 := NB429_426.out; have hnc16 := NB426_429.out; obtain ⟨hcz17_0, hcz17_1, hcz17_2, hcz17_3, hcz17_4, hfz17_0, hfz17_1, hfz17_2, hfz17_3, hfz17_4⟩ := cz5 BK429; obtain ⟨hcz18_0, hcz18_1, hcz18_2, hcz18_3, hfz18_0, hfz18_1, hfz18_2, hfz18_3⟩ := cz4 BK426) | ((with_reducible refine gC 16 rfl ?_); refine gl_ 27 Tryz.func16 #[.agg #[.string a0_0, .string a0_1, .int .i64 a0_2, .slice (some ad428) l0_3.length c0_3], .int .i64 x19_1, .string a1] ?_; (with_reducible refine (parcel_isWithin.calls k1 a0_0 a0_1 a0_2 _ _ l0_3 x19_1 a1 true _ ?side1 HC0_3.out A12.out).mono ?_); (case side1 => exact Kd.C_below HR0_3.out (zb w)); rintro e w19 ⟨rfl, hb⟩; refine ⟨_, rfl, ?_⟩; replace HO_7 := Aside0.mk (Kd.R_below (by (with_reducible repeat (first | apply Kd.R_alloc | apply Kd.R_drewN | apply Kd.R_drew)); exact (Kd.R_mono (Kd.R_far (p := ⟨gb429, 4, none⟩) (Kd.R_far (p := ⟨gb429, 3, none⟩) (Kd.R_far (p := ⟨gb429, 2, none⟩) (Kd.R_far (p := ⟨gb429, 1, none⟩) (Kd.R_far (p := ⟨gb429, 0, none⟩) (Kd.R_types HO_7.out BK429.out (by decide)) (fun _ hk => hk.2) (.string ((rd_T42 l0_3 x19_1).f0))) (fun _ hk => hk.2) (.string ((rd_T42 l0_3 x19_1).f1))) (fun _ hk => hk.2) (.int .i64 ((rd_T42 l0_3 x19_1).f2.f0))) (fun _ hk => hk.2) (.int .i64 ((rd_T42 l0_3 x19_1).f2.f1))) (fun _ hk => hk.2) (.slice A428_4 ((rd_T42 l0_3 x19_1).f3).length c428_4)) (fun _ h_ => h_.1))) hb); replace BK426 := Aside0.mk (blk_below (g := gb426) (o := .cells #[.string a0_0, .string a0_1, .int .i64 a0_2, .slice (some ad428) l0_3.length c0_3] 24 (0, 0)) (by (with_reducible repeat (first | refine blk_drewN ?_ _ | refine blk_drew ?_ | refine blk_alloc ?_ _)); refine blk_far ?_ NB426_429.out _; (with_reducible repeat (first | refine blk_drewN ?_ _ | refine blk_drew ?_ | refine blk_alloc ?_ _)); refine blk_far ?_ NB426_429.out _; (with_reducible repeat (first | refine blk_drewN ?_ _ | refine blk_drew ?_ | refine blk_alloc ?_ _)); refine blk_far ?_ NB426_429.out _; (with_reducible repeat (first | refine blk_drewN ?_ _ | refine blk_drew ?_ | refine blk_alloc ?_ _)); refine blk_far ?_ NB426_429.out _; (with_reducible repeat (first | refine blk_drewN ?_ _ | refine blk_drew ?_ | refine blk_alloc ?_ _)); refine blk_far ?_ NB426_429.out _; exact zk BK426) hb); replace BK429 := Aside0.mk (blk_below (g := gb429) (o := .cells #[.string ((rd_T42 l0_3 x19_1).f0), .string ((rd_T42 l0_3 x19_1).f1), .int .i64 ((rd_T42 l0_3 x19_1).f2.f0), .int .i64 ((rd_T42 l0_3 x19_1).f2.f1), .slice A428_4 ((rd_T42 l0_3 x19_1).f3).length c428_4] 42 (0, 0)) (by (with_reducible repeat (first | refine blk_drewN ?_ _ | refine blk_drew ?_ | refine blk_alloc ?_ _)); refine blk_put (cs := #[.string ((rd_T42 l0_3 x19_1).f0), .string ((rd_T42 l0_3 x19_1).f1), .int .i64 ((rd_T42 l0_3 x19_1).f2.f0), .int .i64 ((rd_T42 l0_3 x19_1).f2.f1), .slice none 0 0]) ?_ 4 _ rfl; (with_reducible repeat (first | refine blk_drewN ?_ _ | refine blk_drew ?_ | refine blk_alloc ?_ _)); refine blk_put (cs := #[.string ((rd_T42 l0_3 x19_1).f0), .string ((rd_T42 l0_3 x19_1).f1), .int .i64 ((rd_T42 l0_3 x19_1).f2.f0), .int .i64 0, .slice none 0 0]) ?_ 3 _ rfl; (with_reducible repeat (first | refine blk_drewN ?_ _ | refine blk_drew ?_ | refine blk_alloc ?_ _)); refine blk_put (cs := #[.string ((rd_T42 l0_3 x19_1).f0), .string ((rd_T42 l0_3 x19_1).f1), .int .i64 0, .int .i64 0, .slice none 0 0]) ?_ 2 _ rfl; (with_reducible repeat (first | refine blk_drewN ?_ _ | refine blk_drew ?_ | refine blk_alloc ?_ _)); refine blk_put (cs := #[.string ((rd_T42 l0_3 x19_1).f0), .string (⟨#[]⟩ : ByteArray), .int .i64 0, .int .i64 0, .slice none 0 0]) ?_ 1 _ rfl; (with_reducible repeat (first | refine blk_drewN ?_ _ | refine blk_drew ?_ | refine blk_alloc ?_ _)); refine blk_put (cs := #[.string (⟨#[]⟩ : ByteArray), .string (⟨#[]⟩ : ByteArray), .int .i64 0, .int .i64 0, .slice none 0 0]) ?_ 0 _ rfl; exact zk BK429) hb); replace HB := hs w hb; (try clear hb); obtain ⟨hcz20_0, hcz20_1, hcz20_2, hcz20_3, hcz20_4, hfz20_0, hfz20_1, hfz20_2, hfz20_3, hfz20_4⟩ := cz5 BK429) | ((with_reducible refine gate_builtin (b := .append) (xs := #[.tmp 28, .tmp 31]) rfl ?_); at_builtin; refine Kd.R_append Kd.string (w0 := w) w.heap.size rfl (.tmp 28) (.tmp 31) 25 9 (.string ⟨#[]⟩) 16 rfl Tryz.underlying25 info9 rfl (by decide) (by omega) u7 x7_1 ((rd_T42 l0_3 x19_1).f0) [.string ((rd_T42 l0_3 x19_1).f0)] (fun _ => True) (fun _ => False) rfl rfl ?aP (fun _ hk => hk.elim) ?aF ?aO ?aB ?aS ?aL ?_; (case aP => exact rfl); (case aB => exact (zb w)); (case aF => exact (fun _ _ => trivial)); (case aO => exact (zo HO_7)); (case aS => exact (below_size (zb w))); (case aL => have := LMc14.out; omega); intro v432 w21 ho hb hg hat; rw [← Ny431.out] at ho; replace BK426 := Aside0.mk (blk_grown (g := gb426) (o := .cells #[.string a0_0, .string a0_1, .int .i64 a0_2, .slice (some ad428) l0_3.length c0_3] 24 (0, 0)) (zk BK426) hg (Kd.R_ne HO_7.out BK426.out (by decide))); replace BK429 := Aside0.mk (blk_grown (g := gb429) (o := .cells #[.string ((rd_T42 l0_3 x19_1).f0), .string ((rd_T42 l0_3 x19_1).f1), .int .i64 ((rd_T42 l0_3 x19_1).f2.f0), .int .i64 ((rd_T42 l0_3 x19_1).f2.f1), .slice A428_4 ((rd_T42 l0_3 x19_1).f3).length c428_4] 42 (0, 0)) (zk BK429) hg (Kd.R_ne HO_7.out BK429.out (by decide))); replace HB := Aside0.mk (hb); have HO433 := Aside0.mk (ho); clear HO_7; clear ho hb hg hat))
         go_roundg k1
         case measure => have := HK1.out; omega
         case rel => exact ⟨(y431), (wrap64 (x19_1 + 1)), ar, H', ⟨by have := HK1.out; omega⟩, ⟨zo HO433⟩, ⟨(zk BK426)⟩, ⟨(zb w)⟩⟩
        ·rw [if_neg c14] at H
         exact absurd H (by simp)
       ·replace c13 := Bool.eq_false_iff.mpr c13
        subst c13
        have H1 : (parcel_Within.l0 k1 a1 x7_1 l0_3 (l0_3.length : Int) (wrap64 (x19_1 + 1)) a0_0 a0_1 a0_2 l0_3) = some (r1, r2) := by rw [if_neg (show ¬ (false = true) by decide)] at H; exact H
        clear H
        have H := H1
        clear H1
        have H' := Aside0.mk H
        clear H
        have p428 : 0 ≤ (x19_1 : Int) := of_decide_eq_true (by assumption)
        have q428 : x19_1 < (l0_3.length : Int) := of_decide_eq_true (by assumption)
        obtain ⟨ad428, A428_4, c428_4, e428, hx428_0, hx428_1, hx428_2, hx428_3, hx428_4, hl428_4, hi428_4⟩ := at_T42 HR0_3.out x19_1 p428 q428
        cases e428
        replace hx428_0 := hz HB hx428_0
        replace hx428_1 := hz HB hx428_1
        replace hx428_2 := hz HB hx428_2
        replace hx428_3 := hz HB hx428_3
        replace hx428_4 := hz HB hx428_4
        have HR428_4 := Aside0.mk hi428_4
        have HC428_4 := Aside0.mk hl428_4
        clear hi428_4 hl428_4
        replace p428 := eq_true p428
        replace q428 := eq_true q428
        go_wp2_with (first | ((with_reducible refine gD 9 rfl ?_); refine box_event ?hg (N := 9) ?hd (cs := #[.string (⟨#[]⟩ : ByteArray), .string (⟨#[]⟩ : ByteArray), .int .i64 0, .int .i64 0, .slice none 0 0]) (t := 42) ?hr ?_; (case hd => rfl); (case hg => rfl); (case hr => first | (go_simp; done) | (go_simp; rfl)); intro gb429 hg w22 hbox hb; replace HO_7 := rb HO_7 hb; have BK429 := Aside0.mk (hbox); have GW429 := Aside0.mk ((by rw [hg]; exact (below_size (zb w)) : w.heap.size ≤ gb429)); have GE429 := Aside0.mk ((by rw [hg]; exact (below_size (zb w)) : w.heap.size ≤ gb429)); replace HB := hs w hb; have NB426_429 := nbl BK426 hg; have NB429_426 := nbr BK426 hg; replace BK426 := bb BK426 hb; clear hb hg; have hnb23 := NB429_426.out; have hnc23 := NB426_429.out; obtain ⟨hcz24_0, hcz24_1, hcz24_2, hcz24_3, hcz24_4, hfz24_0, hfz24_1, hfz24_2, hfz24_3, hfz24_4⟩ := cz5 BK429; obtain ⟨hcz25_0, hcz25_1, hcz25_2, hcz25_3, hfz25_0, hfz25_1, hfz25_2, hfz25_3⟩ := cz4 BK426) | ((with_reducible refine gC 16 rfl ?_); refine gl_ 27 Tryz.func16 #[.agg #[.string a0_0, .string a0_1, .int .i64 a0_2, .slice (some ad428) l0_3.length c0_3], .int .i64 x19_1, .string a1] ?_; (with_reducible refine (parcel_isWithin.calls k1 a0_0 a0_1 a0_2 _ _ l0_3 x19_1 a1 false _ ?side1 HC0_3.out A12.out).mono ?_); (case side1 => exact Kd.C_below HR0_3.out (zb w)); rintro e w26 ⟨rfl, hb⟩; refine ⟨_, rfl, ?_⟩; replace HO_7 := Aside0.mk (Kd.R_below (by (with_reducible repeat (first | apply Kd.R_alloc | apply Kd.R_drewN | apply Kd.R_drew)); exact (Kd.R_mono (Kd.R_far (p := ⟨gb429, 4, none⟩) (Kd.R_far (p := ⟨gb429, 3, none⟩) (Kd.R_far (p := ⟨gb429, 2, none⟩) (Kd.R_far (p := ⟨gb429, 1, none⟩) (Kd.R_far (p := ⟨gb429, 0, none⟩) (Kd.R_types HO_7.out BK429.out (by decide)) (fun _ hk => hk.2) (.string ((rd_T42 l0_3 x19_1).f0))) (fun _ hk => hk.2) (.string ((rd_T42 l0_3 x19_1).f1))) (fun _ hk => hk.2) (.int .i64 ((rd_T42 l0_3 x19_1).f2.f0))) (fun _ hk => hk.2) (.int .i64 ((rd_T42 l0_3 x19_1).f2.f1))) (fun _ hk => hk.2) (.slice A428_4 ((rd_T42 l0_3 x19_1).f3).length c428_4)) (fun _ h_ => h_.1))) hb); replace BK426 := Aside0.mk (blk_below (g := gb426) (o := .cells #[.string a0_0, .string a0_1, .int .i64 a0_2, .slice (some ad428) l0_3.length c0_3] 24 (0, 0)) (by (with_reducible repeat (first | refine blk_drewN ?_ _ | refine blk_drew ?_ | refine blk_alloc ?_ _)); refine blk_far ?_ NB426_429.out _; (with_reducible repeat (first | refine blk_drewN ?_ _ | refine blk_drew ?_ | refine blk_alloc ?_ _)); refine blk_far ?_ NB426_429.out _; (with_reducible repeat (first | refine blk_drewN ?_ _ | refine blk_drew ?_ | refine blk_alloc ?_ _)); refine blk_far ?_ NB426_429.out _; (with_reducible repeat (first | refine blk_drewN ?_ _ | refine blk_drew ?_ | refine blk_alloc ?_ _)); refine blk_far ?_ NB426_429.out _; (with_reducible repeat (first | refine blk_drewN ?_ _ | refine blk_drew ?_ | refine blk_alloc ?_ _)); refine blk_far ?_ NB426_429.out _; exact zk BK426) hb); replace BK429 := Aside0.mk (blk_below (g := gb429) (o := .cells #[.string ((rd_T42 l0_3 x19_1).f0), .string ((rd_T42 l0_3 x19_1).f1), .int .i64 ((rd_T42 l0_3 x19_1).f2.f0), .int .i64 ((rd_T42 l0_3 x19_1).f2.f1), .slice A428_4 ((rd_T42 l0_3 x19_1).f3).length c428_4] 42 (0, 0)) (by (with_reducible repeat (first | refine blk_drewN ?_ _ | refine blk_drew ?_ | refine blk_alloc ?_ _)); refine blk_put (cs := #[.string ((rd_T42 l0_3 x19_1).f0), .string ((rd_T42 l0_3 x19_1).f1), .int .i64 ((rd_T42 l0_3 x19_1).f2.f0), .int .i64 ((rd_T42 l0_3 x19_1).f2.f1), .slice none 0 0]) ?_ 4 _ rfl; (with_reducible repeat (first | refine blk_drewN ?_ _ | refine blk_drew ?_ | refine blk_alloc ?_ _)); refine blk_put (cs := #[.string ((rd_T42 l0_3 x19_1).f0), .string ((rd_T42 l0_3 x19_1).f1), .int .i64 ((rd_T42 l0_3 x19_1).f2.f0), .int .i64 0, .slice none 0 0]) ?_ 3 _ rfl; (with_reducible repeat (first | refine blk_drewN ?_ _ | refine blk_drew ?_ | refine blk_alloc ?_ _)); refine blk_put (cs := #[.string ((rd_T42 l0_3 x19_1).f0), .string ((rd_T42 l0_3 x19_1).f1), .int .i64 0, .int .i64 0, .slice none 0 0]) ?_ 2 _ rfl; (with_reducible repeat (first | refine blk_drewN ?_ _ | refine blk_drew ?_ | refine blk_alloc ?_ _)); refine blk_put (cs := #[.string ((rd_T42 l0_3 x19_1).f0), .string (⟨#[]⟩ : ByteArray), .int .i64 0, .int .i64 0, .slice none 0 0]) ?_ 1 _ rfl; (with_reducible repeat (first | refine blk_drewN ?_ _ | refine blk_drew ?_ | refine blk_alloc ?_ _)); refine blk_put (cs := #[.string (⟨#[]⟩ : ByteArray), .string (⟨#[]⟩ : ByteArray), .int .i64 0, .int .i64 0, .slice none 0 0]) ?_ 0 _ rfl; exact zk BK429) hb); replace HB := hs w hb; (try clear hb)))
        go_roundg k1
        case measure => have := HK1.out; omega
        case rel => exact ⟨(x7_1), (wrap64 (x19_1 + 1)), ar, H', ⟨by have := HK1.out; omega⟩, ⟨zo HO_7⟩, ⟨(zk BK426)⟩, ⟨(zb w)⟩⟩
      ·rw [if_neg c11] at H
       exact absurd H (by simp)
     ·rw [if_neg c10] at H
      exact absurd H (by simp)
    ·rw [if_neg c9] at H
     have c9b0 : decide (x19_1 < (l0_3.length : Int)) = false := decide_eq_false c9
     clear c9
     simp only [Option.some.injEq, Prod.mk.injEq] at H
     obtain ⟨rfl, rfl⟩ := H
     go_wp2
     go_ret2
     exact ⟨_, by first | rfl | (simp [errW_none, errW_some] <;> rfl) | (simp [*, errW_none, errW_some] <;> rfl), by (with_reducible repeat (first | apply Kd.R_alloc | apply Kd.R_drewN | apply Kd.R_drew)); exact HO_7.out, (zb w)⟩
 ·rw [if_neg c4] at H
  have c4b0 : (t427 == 0) = false := beq_eq_false_iff_ne.mpr c4
  have c4b1 : (t427 != 0) = true := bne_iff_ne.mpr c4
  simp only [Option.some.injEq, Prod.mk.injEq] at H
  obtain ⟨rfl, rfl⟩ := H
  go_enter Tryz.func5, Tryz.ntmps5
  go_wp2_with (first | ((with_reducible refine gD 2 rfl ?_); refine bx w 2 #[.string a0_0, .string a0_1, .int .i64 a0_2, .slice A0_3 l0_3.length c0_3] 24 ?_; intro gb426 hg w27 hb BK426 GW426 GE426; clear HB; intro HB; clear hb hg; obtain ⟨hcz28_0, hcz28_1, hcz28_2, hcz28_3, hfz28_0, hfz28_1, hfz28_2, hfz28_3⟩ := cz4 BK426) | ((with_reducible refine gC 15 rfl ?_); refine gl_ 12 Tryz.func15 #[.agg #[.string a0_0, .string a0_1, .int .i64 a0_2, .slice A0_3 l0_3.length c0_3], .string a1, .bool false] ?_; (with_reducible refine (parcel_labelFault.calls k a0_0 a0_1 a0_2 _ _ l0_3 a1 false t427 _ (zc HR0_3) HC0_3.out A3.out).mono ?_); rintro e w29 ⟨rfl, hb⟩; refine ⟨_, rfl, ?_⟩; replace BK426 := bb BK426 hb; replace HB := hs w hb; (try clear hb)))
  go_ret2
  exact ⟨_, by first | rfl | (simp [errW_none, errW_some] <;> rfl) | (simp [*, errW_none, errW_some] <;> rfl), by first | exact Kd.R_nil _ _ _ _ _ | exact Kd.N_nil _ _ _ _ _ | exact Kd.V_nil _ _ _ _ _ | exact Kd.Q_nil _ _ _ _ _ | exact Kd.S_nil _ _ _ _ _, (zb w)⟩

end Go.Proofs.YthgefhnolmloiaaGreatDoor.P3
