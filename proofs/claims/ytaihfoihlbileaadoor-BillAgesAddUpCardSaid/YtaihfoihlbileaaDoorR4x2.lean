-- Made by a program of this session out of the translation (wip/pp.py): functions, contracts.
import Derived.Test.YtaihfoihlbileaaDoorR4x0
import Derived.Test.YtaihfoihlbileaaDoorR4x1
namespace Go.Proofs.YtaihfoihlbileaaDoor.R4
open Go.RowKit Go.Proofs.YtaihfoihlbileaaDoorW.PrintWords Go.Proofs.YtaihfoihlbileaaDoorW.PrintLast Go.Proofs.YtaihfoihlbileaaDoorW.PrintMore
attribute [local go_sem] max2_int min2_int max_two min_two max_three min_three max_four min_four   -- for this text's walks alone
set_option linter.unusedVariables false
set_option linter.unusedSimpArgs false

/-! ### whole_compare: function 64 -/
def whole_compare.l0 : Nat → List Int → List Int → Int → Option (Int)
 | 0, _, _, _ => none
 | k + 1, x0, x1, x5 => if x5 ≥ 0 then (if 0 ≤ x5 then (if x5 < (x0.length : Int) then (if x5 < (x1.length : Int) then (if (rd x0 x5) = (rd x1 x5) then (whole_compare.l0 k x0 x1 (wrap64 (x5 - 1))) else (if (rd x0 x5) < (rd x1 x5) then (some (-1)) else (some 1))) else (none)) else (none)) else (none)) else (some 0)
def whole_compare.f (k : Nat) (l0 : List Int) (l1 : List Int) : Option (Int) := if (l0.length : Int) = (l1.length : Int) then (whole_compare.l0 k l0 l1 (wrap64 ((l0.length : Int) - 1))) else (some (wrap64 ((l0.length : Int) - (l1.length : Int))))
theorem whole_compare.mono_l : ∀ k, (∀ y0 y1 y2, LeO (whole_compare.l0 k y0 y1 y2) (whole_compare.l0 (k + 1) y0 y1 y2))
 | 0 => fun _ _ _ r h => by simp [whole_compare.l0] at h
 | k + 1 => by
  have ih0 := whole_compare.mono_l k
  ·intro y0 y1 y2
   unfold whole_compare.l0
   repeat' first | with_reducible first | exact ih0 _ _ _ | exact lr _ | exact ln _ | refine li ?_ ?_ | refine lb ?_ fun _ => ?_ | exact ih0 _ _ _ | exact ln _ | refine li ?_ ?_ | refine lb ?_ fun _ => ?_
theorem whole_compare.mono : ∀ a0 a1 k, LeO (whole_compare.f k a0 a1) (whole_compare.f (k + 1) a0 a1) := by
 intro a0 a1 k
 have ih0 := whole_compare.mono_l k
 unfold whole_compare.f
 repeat' first | with_reducible first | exact ih0 _ _ _ | exact lr _ | exact ln _ | refine li ?_ ?_ | refine lb ?_ fun _ => ?_ | exact ih0 _ _ _ | exact ln _ | refine li ?_ ?_ | refine lb ?_ fun _ => ?_
set_option maxHeartbeats 8000000 in
set_option maxRecDepth 100000 in
theorem whole_compare.calls (k : Nat) (A0 : Option Addr) (c0 : Nat) (l0 : List Int) (A1 : Option Addr) (c1 : Nat) (l1 : List Int) (r : Int) (w : World) (hr0 : Kd.C (Kd.int .u32) w A0 l0.length l0) (hc0 : l0.length ≤ c0) (hr1 : Kd.C (Kd.int .u32) w A1 l1.length l1) (hc1 : l1.length ≤ c1) (h : whole_compare.f k l0 l1 = some r) :
  Calls Tryd.prog 64 #[.slice A0 l0.length c0, .slice A1 l1.length c1] w fun e w' => e = .returned (.int .i64 r) ∧ Below w.heap.size w w' := by
 have HR0 := Aside0.mk hr0
 have HC0 := Aside0.mk hc0
 clear hr0 hc0
 have HR1 := Aside0.mk hr1
 have HC1 := Aside0.mk hc1
 clear hr1 hc1
 have HB := Aside0.mk (Below.refl w.heap.size w)
 have H := h
 unfold whole_compare.f at H
 clear h
 by_cases c3 : (l0.length : Int) = (l1.length : Int)
 ·rw [if_pos c3] at H
  have c3b0 : ((l0.length : Int) == (l1.length : Int)) = true := beq_iff_eq.mpr c3
  have c3b1 : ((l0.length : Int) != (l1.length : Int)) = false := bne_eq_false_iff_eq.mpr c3
  have c3b2 : (l0.length == l1.length) = true := by first | simpa using c3 | (simp at c3 ⊢; omega)
  clear c3
  have H' := Aside0.mk H
  clear H
  go_enter Tryd.func64, Tryd.ntmps64
  go_wp2
  repeat (go_quiet (fail); try go_wp2)
  try simp only [sq]
  go_loopg [5] k (fun kq v5 w' => ∃ (x5_1 : Int), v5 = .int .i64 x5_1 ∧ Aside0 (whole_compare.l0 kq l0 l1 x5_1 = some r) ∧ Aside0 (kq ≤ k) ∧ Aside0 (Below w.heap.size w w'))
  case atStart => exact ⟨(wrap64 ((l0.length : Int) - 1)), ar, H', ⟨Nat.le_refl _⟩, ⟨(zb w)⟩⟩
  case round =>
   clear H'
   try clear c1
   try clear p2
   try clear c3
   try clear c3b0
   try clear c3b1
   try clear c3b2
   obtain ⟨x5_1, rfl, HA, HK1, HB⟩ := hrel
   cases gk with
   | zero => exact absurd HA.out (by simp [whole_compare.l0])
   | succ k1 =>
    have H := HA.out
    clear HA
    simp only [whole_compare.l0] at H
    by_cases c4 : x5_1 ≥ 0
    ·rw [if_pos c4] at H
     have c4b0 : decide (0 ≤ x5_1) = true := decide_eq_true c4
     clear c4
     by_cases c5 : 0 ≤ x5_1
     ·rw [if_pos c5] at H
      have c5b0 : decide (0 ≤ x5_1) = true := decide_eq_true c5
      clear c5
      by_cases c6 : x5_1 < (l0.length : Int)
      ·rw [if_pos c6] at H
       have c6b0 : decide (x5_1 < (l0.length : Int)) = true := decide_eq_true c6
       clear c6
       by_cases c7 : x5_1 < (l1.length : Int)
       ·rw [if_pos c7] at H
        have c7b0 : decide (x5_1 < (l1.length : Int)) = true := decide_eq_true c7
        clear c7
        by_cases c8 : (rd l0 x5_1) = (rd l1 x5_1)
        ·rw [if_pos c8] at H
         have c8b0 : ((rd l0 x5_1) == (rd l1 x5_1)) = true := beq_iff_eq.mpr c8
         have c8b1 : ((rd l0 x5_1) != (rd l1 x5_1)) = false := bne_eq_false_iff_eq.mpr c8
         clear c8
         have H' := Aside0.mk H
         clear H
         have p154 : 0 ≤ (x5_1 : Int) := of_decide_eq_true (by assumption)
         have q154 : x5_1 < (l0.length : Int) := of_decide_eq_true (by assumption)
         obtain ⟨ad154, e154, hx154_0⟩ := Kd.at_int HR0.out x5_1 p154 q154
         cases e154
         replace hx154_0 := hz HB hx154_0
         replace p154 := eq_true p154
         replace q154 := eq_true q154
         have p155 : 0 ≤ (x5_1 : Int) := of_decide_eq_true (by assumption)
         have q155 : x5_1 < (l1.length : Int) := of_decide_eq_true (by assumption)
         obtain ⟨ad155, e155, hx155_0⟩ := Kd.at_int HR1.out x5_1 p155 q155
         cases e155
         replace hx155_0 := hz HB hx155_0
         replace p155 := eq_true p155
         replace q155 := eq_true q155
         go_wp2
         repeat (go_quiet (fail); try go_wp2)
         go_roundg k1
         case measure => have := HK1.out; omega
         case rel => exact ⟨(wrap64 (x5_1 - 1)), ar, H', ⟨by have := HK1.out; omega⟩, ⟨(zb w)⟩⟩
        ·rw [if_neg c8] at H
         have c8b0 : ((rd l0 x5_1) == (rd l1 x5_1)) = false := beq_eq_false_iff_ne.mpr c8
         have c8b1 : ((rd l0 x5_1) != (rd l1 x5_1)) = true := bne_iff_ne.mpr c8
         by_cases c9 : (rd l0 x5_1) < (rd l1 x5_1)
         ·rw [if_pos c9] at H
          have c9b0 : decide ((rd l0 x5_1) < (rd l1 x5_1)) = true := decide_eq_true c9
          clear c9
          obtain rfl := Option.some.inj H
          have p154 : 0 ≤ (x5_1 : Int) := of_decide_eq_true (by assumption)
          have q154 : x5_1 < (l0.length : Int) := of_decide_eq_true (by assumption)
          obtain ⟨ad154, e154, hx154_0⟩ := Kd.at_int HR0.out x5_1 p154 q154
          cases e154
          replace hx154_0 := hz HB hx154_0
          replace p154 := eq_true p154
          replace q154 := eq_true q154
          have p155 : 0 ≤ (x5_1 : Int) := of_decide_eq_true (by assumption)
          have q155 : x5_1 < (l1.length : Int) := of_decide_eq_true (by assumption)
          obtain ⟨ad155, e155, hx155_0⟩ := Kd.at_int HR1.out x5_1 p155 q155
          cases e155
          replace hx155_0 := hz HB hx155_0
          replace p155 := eq_true p155
          replace q155 := eq_true q155
          have p156 : 0 ≤ (x5_1 : Int) := of_decide_eq_true (by assumption)
          have q156 : x5_1 < (l0.length : Int) := of_decide_eq_true (by assumption)
          obtain ⟨ad156, e156, hx156_0⟩ := Kd.at_int HR0.out x5_1 p156 q156
          obtain rfl : ad154 = ad156 := (by injection e156)
          replace hx156_0 := hz HB hx156_0
          replace p156 := eq_true p156
          replace q156 := eq_true q156
          have p157 : 0 ≤ (x5_1 : Int) := of_decide_eq_true (by assumption)
          have q157 : x5_1 < (l1.length : Int) := of_decide_eq_true (by assumption)
          obtain ⟨ad157, e157, hx157_0⟩ := Kd.at_int HR1.out x5_1 p157 q157
          obtain rfl : ad155 = ad157 := (by injection e157)
          replace hx157_0 := hz HB hx157_0
          replace p157 := eq_true p157
          replace q157 := eq_true q157
          go_wp2
          repeat (go_quiet (fail); try go_wp2)
          go_ret
          exact ⟨by first | rfl | (simp [errW_none, errW_some] <;> rfl) | (simp [*, errW_none, errW_some] <;> rfl), (zb w)⟩
         ·rw [if_neg c9] at H
          have c9b0 : decide ((rd l0 x5_1) < (rd l1 x5_1)) = false := decide_eq_false c9
          clear c9
          obtain rfl := Option.some.inj H
          have p154 : 0 ≤ (x5_1 : Int) := of_decide_eq_true (by assumption)
          have q154 : x5_1 < (l0.length : Int) := of_decide_eq_true (by assumption)
          obtain ⟨ad154, e154, hx154_0⟩ := Kd.at_int HR0.out x5_1 p154 q154
          cases e154
          replace hx154_0 := hz HB hx154_0
          replace p154 := eq_true p154
          replace q154 := eq_true q154
          have p155 : 0 ≤ (x5_1 : Int) := of_decide_eq_true (by assumption)
          have q155 : x5_1 < (l1.length : Int) := of_decide_eq_true (by assumption)
          obtain ⟨ad155, e155, hx155_0⟩ := Kd.at_int HR1.out x5_1 p155 q155
          cases e155
          replace hx155_0 := hz HB hx155_0
          replace p155 := eq_true p155
          replace q155 := eq_true q155
          have p156 : 0 ≤ (x5_1 : Int) := of_decide_eq_true (by assumption)
          have q156 : x5_1 < (l0.length : Int) := of_decide_eq_true (by assumption)
          obtain ⟨ad156, e156, hx156_0⟩ := Kd.at_int HR0.out x5_1 p156 q156
          obtain rfl : ad154 = ad156 := (by injection e156)
          replace hx156_0 := hz HB hx156_0
          replace p156 := eq_true p156
          replace q156 := eq_true q156
          have p157 : 0 ≤ (x5_1 : Int) := of_decide_eq_true (by assumption)
          have q157 : x5_1 < (l1.length : Int) := of_decide_eq_true (by assumption)
          obtain ⟨ad157, e157, hx157_0⟩ := Kd.at_int HR1.out x5_1 p157 q157
          obtain rfl : ad155 = ad157 := (by injection e157)
          replace hx157_0 := hz HB hx157_0
          replace p157 := eq_true p157
          replace q157 := eq_true q157
          go_wp2
          repeat (go_quiet (fail); try go_wp2)
          go_ret
          exact ⟨by first | rfl | (simp [errW_none, errW_some] <;> rfl) | (simp [*, errW_none, errW_some] <;> rfl), (zb w)⟩
       ·rw [if_neg c7] at H
        exact absurd H (by simp)
      ·rw [if_neg c6] at H
       exact absurd H (by simp)
     ·rw [if_neg c5] at H
      exact absurd H (by simp)
    ·rw [if_neg c4] at H
     have c4b0 : decide (0 ≤ x5_1) = false := decide_eq_false c4
     clear c4
     obtain rfl := Option.some.inj H
     go_wp2
     repeat (go_quiet (fail); try go_wp2)
     go_ret
     exact ⟨by first | rfl | (simp [errW_none, errW_some] <;> rfl) | (simp [*, errW_none, errW_some] <;> rfl), (zb w)⟩
 ·rw [if_neg c3] at H
  have c3b0 : ((l0.length : Int) == (l1.length : Int)) = false := beq_eq_false_iff_ne.mpr c3
  have c3b1 : ((l0.length : Int) != (l1.length : Int)) = true := bne_iff_ne.mpr c3
  have c3b2 : (l0.length == l1.length) = false := by first | simpa using c3 | (simp at c3 ⊢; omega)
  obtain rfl := Option.some.inj H
  go_enter Tryd.func64, Tryd.ntmps64
  go_wp2
  repeat (go_quiet (fail); try go_wp2)
  go_ret
  exact ⟨by first | rfl | (simp [errW_none, errW_some] <;> rfl) | (simp [*, errW_none, errW_some] <;> rfl), (zb w)⟩

/-! ### whole_less: function 65 -/
def whole_less.l0 : Nat → List Int → List Int → Int → List Int → Int → Int → Option (List Int)
 | 0, _, _, _, _, _, _ => none
 | k + 1, x1, x5, x6, x13, x14, x15 => if x15 < x14 then (if 0 ≤ x15 then (if x15 < (x13.length : Int) then (if x15 < (x1.length : Int) then (if x5.length < 35184372088832 then (whole_less.l0 k x1 (x5 ++ [(IntKind.u64.wrap ((IntKind.u64.wrap ((IntKind.u64.wrap (rd x13 x15)) - x6)) - (IntKind.u64.wrap (rd x1 x15)))) % 4294967296]) (Go.bits .and .u64 ((IntKind.u64.wrap ((IntKind.u64.wrap ((IntKind.u64.wrap (rd x13 x15)) - x6)) - (IntKind.u64.wrap (rd x1 x15)))) / 4294967296) 1) x13 x14 (wrap64 (x15 + 1))) else (none)) else (if x5.length < 35184372088832 then (whole_less.l0 k x1 (x5 ++ [(IntKind.u64.wrap ((IntKind.u64.wrap (rd x13 x15)) - x6)) % 4294967296]) (Go.bits .and .u64 ((IntKind.u64.wrap ((IntKind.u64.wrap (rd x13 x15)) - x6)) / 4294967296) 1) x13 x14 (wrap64 (x15 + 1))) else (none))) else (none)) else (none)) else ((whole_trimmed.f k x5).bind fun t169 => (some t169))
def whole_less.f (k : Nat) (l0 : List Int) (l1 : List Int) : Option (List Int) := if 0 ≤ (l0.length : Int) then (if ((l0.length : Int) : Int).toNat ≤ 70368744177664 then (whole_less.l0 k l1 (([] : List Int)) 0 l0 (l0.length : Int) 0) else (none)) else (none)
theorem whole_less.mono_l : ∀ k, (∀ y0 y1 y2 y3 y4 y5, LeO (whole_less.l0 k y0 y1 y2 y3 y4 y5) (whole_less.l0 (k + 1) y0 y1 y2 y3 y4 y5))
 | 0 => fun _ _ _ _ _ _ r h => by simp [whole_less.l0] at h
 | k + 1 => by
  have ih0 := whole_less.mono_l k
  ·intro y0 y1 y2 y3 y4 y5
   unfold whole_less.l0
   repeat' first | with_reducible first | exact ih0 _ _ _ _ _ _ | exact whole_trimmed.mono _ _ | exact lr _ | exact ln _ | refine li ?_ ?_ | refine lb ?_ fun _ => ?_ | exact ih0 _ _ _ _ _ _ | exact whole_trimmed.mono _ _ | exact ln _ | refine li ?_ ?_ | refine lb ?_ fun _ => ?_
theorem whole_less.mono : ∀ a0 a1 k, LeO (whole_less.f k a0 a1) (whole_less.f (k + 1) a0 a1) := by
 intro a0 a1 k
 have ih0 := whole_less.mono_l k
 unfold whole_less.f
 repeat' first | with_reducible first | exact ih0 _ _ _ _ _ _ | exact whole_trimmed.mono _ _ | exact lr _ | exact ln _ | refine li ?_ ?_ | refine lb ?_ fun _ => ?_ | exact ih0 _ _ _ _ _ _ | exact whole_trimmed.mono _ _ | exact ln _ | refine li ?_ ?_ | refine lb ?_ fun _ => ?_
set_option maxHeartbeats 8000000 in
set_option maxRecDepth 100000 in
theorem whole_less.calls (k : Nat) (A0 : Option Addr) (c0 : Nat) (l0 : List Int) (A1 : Option Addr) (c1 : Nat) (l1 : List Int) (r : List Int) (w : World) (hr0 : Kd.C (Kd.int .u32) w A0 l0.length l0) (hc0 : l0.length ≤ c0) (hr1 : Kd.C (Kd.int .u32) w A1 l1.length l1) (hc1 : l1.length ≤ c1) (h : whole_less.f k l0 l1 = some r) :
  Calls Tryd.prog 65 #[.slice A0 l0.length c0, .slice A1 l1.length c1] w fun e w' => ∃ v0_ : Value, e = .returned (v0_) ∧ Kd.V (Kd.int .u32) 99 w' w.heap.size (fun k_ => (w.heap.size ≤ k_)) v0_ r ∧ Below w.heap.size w w' := by
 have HR0 := Aside0.mk hr0
 have HC0 := Aside0.mk hc0
 clear hr0 hc0
 have HR1 := Aside0.mk hr1
 have HC1 := Aside0.mk hc1
 clear hr1 hc1
 have HB := Aside0.mk (Below.refl w.heap.size w)
 have H := h
 unfold whole_less.f at H
 clear h
 by_cases c3 : 0 ≤ (l0.length : Int)
 ·rw [if_pos c3] at H
  have c3b0 := eq_true c3
  have c3b1 : decide (0 ≤ (l0.length : Int)) = true := decide_eq_true c3
  clear c3
  by_cases c4 : ((l0.length : Int) : Int).toNat ≤ 70368744177664
  ·rw [if_pos c4] at H
   have c4b0 := eq_true c4
   have c4b1 : decide (((l0.length : Int) : Int).toNat ≤ 70368744177664) = true := decide_eq_true c4
   clear c4
   obtain ⟨y158, hy158⟩ : ∃ y_ : List Int, y_ = (([] : List Int)) := ⟨_, rfl⟩
   replace H : (whole_less.l0 k l1 y158 0 l0 (l0.length : Int) 0) = some r := by first | (rw [hy158]; with_reducible exact H) | (have H2_ := (Option.bind_some _ _).symm.trans H; rw [hy158]; with_reducible exact H2_) | (have H2_ := (Option.bind_some _ _).symm.trans H; with_reducible exact H2_) | with_reducible exact H | (rw [hy158]; exact H) | exact H
   have Ny158 := Aside0.mk hy158
   clear hy158
   have H' := Aside0.mk H
   clear H
   go_enter Tryd.func65, Tryd.ntmps65
   go_wp2_with (first | ((with_reducible refine gD 12 rfl ?_); refine Kd.R_makecap (Kd.int .u32) _ 99 rfl (N := 12) rfl 83 _ _ rfl (l0.length : Int) rfl rfl Tryd.underlying83 (.int .u32 0) 4 info99 rfl (by decide) (by omega) 0 (ok := fun _ => True) (okp := fun _ => True) rfl (fun _ hk => hk) trivial (of_decide_eq_true (by assumption)) (Nat.le_trans (Nat.mul_le_mul_right _ (of_decide_eq_true (by assumption) : (l0.length : Int).toNat ≤ 70368744177664)) (by omega)) (Below.refl _ _) (Nat.le_refl _) ?_; intro v159 w5 ho6 hb hg_ hnew_; clear hg_ hnew_; (first | rw [← Ny158.out] at ho6 | (simp only [Int.reduceToNat] at ho6; rw [← Ny158.out] at ho6)); have HO160 := Aside0.mk (Kd.R_lower (Kd.R_newM (M := fun k_ => (w.heap.size ≤ k_)) ho6 (below_size (zb w)) (fun k_ h_ => h_)) (below_size (zb w))); replace HB := hs w hb; clear hb ho6))
   try simp only [sq]
   go_loopg [5, 6, 15] k (fun kq v5 v6 v15 w' => ∃ (x5_1 : List Int) (x6_1 : Int) (x15_1 : Int), v6 = .int .u64 x6_1 ∧ v15 = .int .i64 x15_1 ∧ Aside0 (whole_less.l0 kq l1 x5_1 x6_1 l0 (l0.length : Int) x15_1 = some r) ∧ Aside0 (kq ≤ k) ∧ Aside0 (Kd.R (Kd.int .u32) 99 w' w.heap.size (fun k_ => (w.heap.size ≤ k_)) v5 x5_1) ∧ Aside0 (Below w.heap.size w w'))
   case atStart => exact ⟨(y158), (0), (0), ar, ar, H', ⟨Nat.le_refl _⟩, ⟨by (with_reducible repeat (first | apply Kd.R_alloc | apply Kd.R_drewN | apply Kd.R_drew)); exact Kd.R_mono HO160.out (fun _ hk => hk.1)⟩, ⟨(zb w)⟩⟩
   case round =>
    clear H'
    try clear c1
    try clear p2
    try clear c3
    try clear c3b0
    try clear c3b1
    try clear c4
    try clear c4b0
    try clear c4b1
    try clear c6
    obtain ⟨x5_1, x6_1, x15_1, rfl, rfl, HA, HK1, HO_5, HB⟩ := hrel
    cases gk with
    | zero => exact absurd HA.out (by simp [whole_less.l0])
    | succ k1 =>
     have H := HA.out
     clear HA
     simp only [whole_less.l0] at H
     by_cases c7 : x15_1 < (l0.length : Int)
     ·rw [if_pos c7] at H
      have c7b0 : decide (x15_1 < (l0.length : Int)) = true := decide_eq_true c7
      clear c7
      by_cases c8 : 0 ≤ x15_1
      ·rw [if_pos c8] at H
       have c8b0 : decide (0 ≤ x15_1) = true := decide_eq_true c8
       clear c8
       by_cases c9 : x15_1 < (l0.length : Int)
       ·rw [if_pos c9] at H
        have c9b0 : decide (x15_1 < (l0.length : Int)) = true := decide_eq_true c9
        clear c9
        by_cases c10 : x15_1 < (l1.length : Int)
        ·rw [if_pos c10] at H
         have c10b0 : decide (x15_1 < (l1.length : Int)) = true := decide_eq_true c10
         clear c10
         by_cases c11 : x5_1.length < 35184372088832
         ·rw [if_pos c11] at H
          have LMc11 := Aside0.mk c11
          clear c11
          obtain ⟨y163, hy163⟩ : ∃ y_ : List Int, y_ = (x5_1 ++ [(IntKind.u64.wrap ((IntKind.u64.wrap ((IntKind.u64.wrap (rd l0 x15_1)) - x6_1)) - (IntKind.u64.wrap (rd l1 x15_1)))) % 4294967296]) := ⟨_, rfl⟩
          replace H : (whole_less.l0 k1 l1 y163 (Go.bits .and .u64 ((IntKind.u64.wrap ((IntKind.u64.wrap ((IntKind.u64.wrap (rd l0 x15_1)) - x6_1)) - (IntKind.u64.wrap (rd l1 x15_1)))) / 4294967296) 1) l0 (l0.length : Int) (wrap64 (x15_1 + 1))) = some r := by first | (rw [hy163]; with_reducible exact H) | (have H2_ := (Option.bind_some _ _).symm.trans H; rw [hy163]; with_reducible exact H2_) | (have H2_ := (Option.bind_some _ _).symm.trans H; with_reducible exact H2_) | with_reducible exact H | (rw [hy163]; exact H) | exact H
          have Ny163 := Aside0.mk hy163
          clear hy163
          have H' := Aside0.mk H
          clear H
          have p161 : 0 ≤ (x15_1 : Int) := of_decide_eq_true (by assumption)
          have q161 : x15_1 < (l0.length : Int) := of_decide_eq_true (by assumption)
          obtain ⟨ad161, e161, hx161_0⟩ := Kd.at_int HR0.out x15_1 p161 q161
          cases e161
          replace hx161_0 := hz HB hx161_0
          replace p161 := eq_true p161
          replace q161 := eq_true q161
          have p162 : 0 ≤ (x15_1 : Int) := of_decide_eq_true (by assumption)
          have q162 : x15_1 < (l1.length : Int) := of_decide_eq_true (by assumption)
          obtain ⟨ad162, e162, hx162_0⟩ := Kd.at_int HR1.out x15_1 p162 q162
          cases e162
          replace hx162_0 := hz HB hx162_0
          replace p162 := eq_true p162
          replace q162 := eq_true q162
          go_wp2_with (first | ((with_reducible refine gate_builtin (b := .append) (xs := #[.tmp 35, .tmp 38]) rfl ?_); at_builtin; refine Kd.R_append (Kd.int .u32) (w0 := w) w.heap.size rfl (.tmp 35) (.tmp 38) 83 99 (.int .u32 0) 4 rfl Tryd.underlying83 info99 rfl (by decide) (by omega) u5 x5_1 ((IntKind.u64.wrap ((IntKind.u64.wrap ((IntKind.u64.wrap (rd l0 x15_1)) - x6_1)) - (IntKind.u64.wrap (rd l1 x15_1)))) % 4294967296) [.int .u32 ((IntKind.u64.wrap ((IntKind.u64.wrap ((IntKind.u64.wrap (rd l0 x15_1)) - x6_1)) - (IntKind.u64.wrap (rd l1 x15_1)))) % 4294967296)] (fun k_ => (w.heap.size ≤ k_)) (fun _ => False) rfl rfl ?aP (fun _ hk => hk.elim) ?aF ?aO ?aB ?aS ?aL ?_; (case aP => exact rfl); (case aB => exact (zb w)); (case aF => exact (fun k_ hk => (Nat.le_trans (below_size (zb w)) hk))); (case aO => exact (zo HO_5)); (case aS => exact (below_size (zb w))); (case aL => have := LMc11.out; omega); intro v164 w12 ho hb hg hat; rw [← Ny163.out] at ho; replace HB := Aside0.mk (hb); have HO165 := Aside0.mk (ho); clear HO_5; clear ho hb hg hat))
          go_roundg k1
          case measure => have := HK1.out; omega
          case rel => exact ⟨(y163), (Go.bits .and .u64 ((IntKind.u64.wrap ((IntKind.u64.wrap ((IntKind.u64.wrap (rd l0 x15_1)) - x6_1)) - (IntKind.u64.wrap (rd l1 x15_1)))) / 4294967296) 1), (wrap64 (x15_1 + 1)), ar, ar, H', ⟨by have := HK1.out; omega⟩, ⟨zo HO165⟩, ⟨(zb w)⟩⟩
         ·rw [if_neg c11] at H
          exact absurd H (by simp)
        ·rw [if_neg c10] at H
         have c10b0 : decide (x15_1 < (l1.length : Int)) = false := decide_eq_false c10
         clear c10
         by_cases c13 : x5_1.length < 35184372088832
         ·rw [if_pos c13] at H
          have LMc13 := Aside0.mk c13
          clear c13
          obtain ⟨y166, hy166⟩ : ∃ y_ : List Int, y_ = (x5_1 ++ [(IntKind.u64.wrap ((IntKind.u64.wrap (rd l0 x15_1)) - x6_1)) % 4294967296]) := ⟨_, rfl⟩
          replace H : (whole_less.l0 k1 l1 y166 (Go.bits .and .u64 ((IntKind.u64.wrap ((IntKind.u64.wrap (rd l0 x15_1)) - x6_1)) / 4294967296) 1) l0 (l0.length : Int) (wrap64 (x15_1 + 1))) = some r := by first | (rw [hy166]; with_reducible exact H) | (have H2_ := (Option.bind_some _ _).symm.trans H; rw [hy166]; with_reducible exact H2_) | (have H2_ := (Option.bind_some _ _).symm.trans H; with_reducible exact H2_) | with_reducible exact H | (rw [hy166]; exact H) | exact H
          have Ny166 := Aside0.mk hy166
          clear hy166
          have H' := Aside0.mk H
          clear H
          have p161 : 0 ≤ (x15_1 : Int) := of_decide_eq_true (by assumption)
          have q161 : x15_1 < (l0.length : Int) := of_decide_eq_true (by assumption)
          obtain ⟨ad161, e161, hx161_0⟩ := Kd.at_int HR0.out x15_1 p161 q161
          cases e161
          replace hx161_0 := hz HB hx161_0
          replace p161 := eq_true p161
          replace q161 := eq_true q161
          go_wp2_with (first | ((with_reducible refine gate_builtin (b := .append) (xs := #[.tmp 35, .tmp 38]) rfl ?_); at_builtin; refine Kd.R_append (Kd.int .u32) (w0 := w) w.heap.size rfl (.tmp 35) (.tmp 38) 83 99 (.int .u32 0) 4 rfl Tryd.underlying83 info99 rfl (by decide) (by omega) u5 x5_1 ((IntKind.u64.wrap ((IntKind.u64.wrap (rd l0 x15_1)) - x6_1)) % 4294967296) [.int .u32 ((IntKind.u64.wrap ((IntKind.u64.wrap (rd l0 x15_1)) - x6_1)) % 4294967296)] (fun k_ => (w.heap.size ≤ k_)) (fun _ => False) rfl rfl ?aP (fun _ hk => hk.elim) ?aF ?aO ?aB ?aS ?aL ?_; (case aP => exact rfl); (case aB => exact (zb w)); (case aF => exact (fun k_ hk => (Nat.le_trans (below_size (zb w)) hk))); (case aO => exact (zo HO_5)); (case aS => exact (below_size (zb w))); (case aL => have := LMc13.out; omega); intro v167 w14 ho hb hg hat; rw [← Ny166.out] at ho; replace HB := Aside0.mk (hb); have HO168 := Aside0.mk (ho); clear HO_5; clear ho hb hg hat))
          go_roundg k1
          case measure => have := HK1.out; omega
          case rel => exact ⟨(y166), (Go.bits .and .u64 ((IntKind.u64.wrap ((IntKind.u64.wrap (rd l0 x15_1)) - x6_1)) / 4294967296) 1), (wrap64 (x15_1 + 1)), ar, ar, H', ⟨by have := HK1.out; omega⟩, ⟨zo HO168⟩, ⟨(zb w)⟩⟩
         ·rw [if_neg c13] at H
          exact absurd H (by simp)
       ·rw [if_neg c9] at H
        exact absurd H (by simp)
      ·rw [if_neg c8] at H
       exact absurd H (by simp)
     ·rw [if_neg c7] at H
      have c7b0 : decide (x15_1 < (l0.length : Int)) = false := decide_eq_false c7
      clear c7
      replace H := Option.bind_eq_some_iff.mp H
      obtain ⟨t169, A150, H⟩ := H
      try dsimp only at H
      have A15 := Aside0.mk A150
      clear A150
      obtain rfl := Option.some.inj H
      obtain ⟨Ao16, co16, eo16⟩ := Kd.R_slice HO_5.out
      subst eo16
      go_wp2_with (first | ((with_reducible refine gC 63 rfl ?_); refine gl_ 45 Tryd.func63 #[.slice Ao16 x5_1.length co16] ?_; (with_reducible refine (whole_trimmed.calls k1 (fun k_ => some k_ = (.slice Ao16 x5_1.length co16 : Value).ownBlock) _ _ x5_1 t169 _ ?side1 A15.out).mono ?_); (case side1 => exact Kd.R_V (Kd.R_tight rfl (HO_5.out))); rintro e w17 ⟨v170, rfl, ho0, hb⟩; refine ⟨_, rfl, ?_⟩; have HO171 := Aside0.mk (Kd.V_lower (Kd.V_mono (ok' := fun k_ => (w.heap.size ≤ k_)) ho0 (fun k_ hk_ => Or.elim hk_ (fun hs_ => ((HO_5.out).1 k_ hs_.symm)) (fun hn_ => (Nat.le_trans (below_size (zb w)) hn_)))) (below_size (zb w))); replace HO_5 := rb HO_5 hb; replace HB := hs w hb; (try clear hb); (try clear ho0)))
      go_ret
      exact ⟨_, by first | rfl | (simp [errW_none, errW_some] <;> rfl) | (simp [*, errW_none, errW_some] <;> rfl), by (with_reducible repeat (first | apply Kd.V_alloc | apply Kd.V_drewN | apply Kd.V_drew)); exact HO171.out, (zb w)⟩
  ·rw [if_neg c4] at H
   exact absurd H (by simp)
 ·rw [if_neg c3] at H
  exact absurd H (by simp)

end Go.Proofs.YtaihfoihlbileaaDoor.R4
