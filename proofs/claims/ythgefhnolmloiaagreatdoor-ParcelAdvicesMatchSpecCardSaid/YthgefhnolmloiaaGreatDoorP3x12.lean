-- Made by a program of this session out of the translation (wip/pp.py): functions, contracts.
import Derived.Test.YthgefhnolmloiaaGreatDoorP3x0
import Derived.Test.YthgefhnolmloiaaGreatDoorP3x9
import Derived.Test.YthgefhnolmloiaaGreatDoorP3x11
namespace Go.Proofs.YthgefhnolmloiaaGreatDoor.P3
open Go.RowKit Go.Proofs.YthgefhnolmloiaaGreatDoorW.PrintWords Go.Proofs.YthgefhnolmloiaaGreatDoorW.PrintLast Go.Proofs.YthgefhnolmloiaaGreatDoorW.PrintMore
attribute [local go_sem] max2_int min2_int max_two min_two max_three min_three max_four min_four   -- for this text's walks alone
set_option linter.unusedVariables false
set_option linter.unusedSimpArgs false

/-! ### slices_Index_int_int: function 55 -/
def slices_Index_int_int.l0 : Nat → List Int → Int → Int → Int → Option (Int)
 | 0, _, _, _, _ => none
 | k + 1, x0, x1, x7, x8 => if x8 < x7 then (if 0 ≤ x8 then (if x8 < (x0.length : Int) then (if x1 = (rd x0 x8) then (some x8) else (slices_Index_int_int.l0 k x0 x1 x7 (wrap64 (x8 + 1)))) else (none)) else (none)) else (some (-1))
def slices_Index_int_int.f (k : Nat) (l0 : List Int) (a1 : Int) : Option (Int) := slices_Index_int_int.l0 k l0 a1 (l0.length : Int) 0
theorem slices_Index_int_int.mono_l : ∀ k, (∀ y0 y1 y2 y3, LeO (slices_Index_int_int.l0 k y0 y1 y2 y3) (slices_Index_int_int.l0 (k + 1) y0 y1 y2 y3))
 | 0 => fun _ _ _ _ r h => by simp [slices_Index_int_int.l0] at h
 | k + 1 => by
  have ih0 := slices_Index_int_int.mono_l k
  ·intro y0 y1 y2 y3
   unfold slices_Index_int_int.l0
   repeat' first | with_reducible first | exact ih0 _ _ _ _ | exact lr _ | exact ln _ | refine li ?_ ?_ | refine lb ?_ fun _ => ?_ | exact ih0 _ _ _ _ | exact ln _ | refine li ?_ ?_ | refine lb ?_ fun _ => ?_
theorem slices_Index_int_int.mono : ∀ a0 a1 k, LeO (slices_Index_int_int.f k a0 a1) (slices_Index_int_int.f (k + 1) a0 a1) := by
 intro a0 a1 k
 have ih0 := slices_Index_int_int.mono_l k
 unfold slices_Index_int_int.f
 repeat' first | with_reducible first | exact ih0 _ _ _ _ | exact lr _ | exact ln _ | refine li ?_ ?_ | refine lb ?_ fun _ => ?_ | exact ih0 _ _ _ _ | exact ln _ | refine li ?_ ?_ | refine lb ?_ fun _ => ?_
set_option maxHeartbeats 8000000 in
set_option maxRecDepth 100000 in
theorem slices_Index_int_int.calls (k : Nat) (A0 : Option Addr) (c0 : Nat) (l0 : List Int) (a1 : Int) (r : Int) (w : World) (hr0 : Kd.C (Kd.int .i64) w A0 l0.length l0) (hc0 : l0.length ≤ c0) (h : slices_Index_int_int.f k l0 a1 = some r) :
  Calls Tryz.prog 55 #[.slice A0 l0.length c0, .int .i64 a1] w fun e w' => e = .returned (.int .i64 r) ∧ Drawn0 w w' := by
 have HR0 := Aside0.mk hr0
 have HC0 := Aside0.mk hc0
 clear hr0 hc0
 have H := h
 unfold slices_Index_int_int.f at H
 clear h
 have H' := Aside0.mk H
 clear H
 go_enter Tryz.func55, Tryz.ntmps55
 go_wp2
 try simp only [sq]
 go_loopg [8] k (fun kq v8 w' => ∃ (x8_1 : Int), v8 = .int .i64 x8_1 ∧ Aside0 (slices_Index_int_int.l0 kq l0 a1 (l0.length : Int) x8_1 = some r) ∧ Aside0 (kq ≤ k) ∧ Drawn0 w w')
 case atStart => exact ⟨(0), ar, H', ⟨Nat.le_refl _⟩, dr⟩
 case round =>
  clear H'
  try clear p2
  obtain ⟨x8_1, rfl, HA, HK1, ⟨m1, rfl⟩⟩ := hrel
  cases gk with
  | zero => exact absurd HA.out (by simp [slices_Index_int_int.l0])
  | succ k1 =>
   have H := HA.out
   clear HA
   simp only [slices_Index_int_int.l0] at H
   by_cases c3 : x8_1 < (l0.length : Int)
   ·rw [if_pos c3] at H
    have c3b0 : decide (x8_1 < (l0.length : Int)) = true := decide_eq_true c3
    clear c3
    by_cases c4 : 0 ≤ x8_1
    ·rw [if_pos c4] at H
     have c4b0 : decide (0 ≤ x8_1) = true := decide_eq_true c4
     clear c4
     by_cases c5 : x8_1 < (l0.length : Int)
     ·rw [if_pos c5] at H
      have c5b0 : decide (x8_1 < (l0.length : Int)) = true := decide_eq_true c5
      clear c5
      by_cases c6 : a1 = (rd l0 x8_1)
      ·rw [if_pos c6] at H
       have c6b0 : (a1 == (rd l0 x8_1)) = true := beq_iff_eq.mpr c6
       have c6b1 : (a1 != (rd l0 x8_1)) = false := bne_eq_false_iff_eq.mpr c6
       clear c6
       obtain rfl := Option.some.inj H
       have p303 : 0 ≤ (x8_1 : Int) := of_decide_eq_true (by assumption)
       have q303 : x8_1 < (l0.length : Int) := of_decide_eq_true (by assumption)
       obtain ⟨ad303, e303, hx303_0⟩ := Kd.at_int HR0.out x8_1 p303 q303
       cases e303
       replace p303 := eq_true p303
       replace q303 := eq_true q303
       go_wp2
       go_ret
       exact ⟨ar, dr⟩
      ·rw [if_neg c6] at H
       have c6b0 : (a1 == (rd l0 x8_1)) = false := beq_eq_false_iff_ne.mpr c6
       have c6b1 : (a1 != (rd l0 x8_1)) = true := bne_iff_ne.mpr c6
       have H' := Aside0.mk H
       clear H
       have p303 : 0 ≤ (x8_1 : Int) := of_decide_eq_true (by assumption)
       have q303 : x8_1 < (l0.length : Int) := of_decide_eq_true (by assumption)
       obtain ⟨ad303, e303, hx303_0⟩ := Kd.at_int HR0.out x8_1 p303 q303
       cases e303
       replace p303 := eq_true p303
       replace q303 := eq_true q303
       go_wp2
       go_roundg k1
       case measure => have := HK1.out; omega
       case rel => exact ⟨(wrap64 (x8_1 + 1)), ar, H', ⟨by have := HK1.out; omega⟩, dr⟩
     ·rw [if_neg c5] at H
      exact absurd H (by simp)
    ·rw [if_neg c4] at H
     exact absurd H (by simp)
   ·rw [if_neg c3] at H
    have c3b0 : decide (x8_1 < (l0.length : Int)) = false := decide_eq_false c3
    clear c3
    obtain rfl := Option.some.inj H
    go_wp2
    go_ret
    exact ⟨ar, dr⟩

/-! ### slices_Contains_int_int: function 33 -/
def slices_Contains_int_int.f (k : Nat) (l0 : List Int) (a1 : Int) : Option (Bool) := (slices_Index_int_int.f k l0 a1).bind fun t304 => (some (decide (t304 ≥ 0)))
theorem slices_Contains_int_int.mono : ∀ a0 a1 k, LeO (slices_Contains_int_int.f k a0 a1) (slices_Contains_int_int.f (k + 1) a0 a1) := by
 intro a0 a1 k
 unfold slices_Contains_int_int.f
 repeat' first | with_reducible first | exact slices_Index_int_int.mono _ _ _ | exact lr _ | exact ln _ | refine li ?_ ?_ | refine lb ?_ fun _ => ?_ | exact slices_Index_int_int.mono _ _ _ | exact ln _ | refine li ?_ ?_ | refine lb ?_ fun _ => ?_
set_option maxHeartbeats 8000000 in
set_option maxRecDepth 100000 in
theorem slices_Contains_int_int.calls (k : Nat) (A0 : Option Addr) (c0 : Nat) (l0 : List Int) (a1 : Int) (r : Bool) (w : World) (hr0 : Kd.C (Kd.int .i64) w A0 l0.length l0) (hc0 : l0.length ≤ c0) (h : slices_Contains_int_int.f k l0 a1 = some r) :
  Calls Tryz.prog 33 #[.slice A0 l0.length c0, .int .i64 a1] w fun e w' => e = .returned (.bool r) ∧ Drawn0 w w' := by
 have HR0 := Aside0.mk hr0
 have HC0 := Aside0.mk hc0
 clear hr0 hc0
 have H := h
 unfold slices_Contains_int_int.f at H
 clear h
 replace H := Option.bind_eq_some_iff.mp H
 obtain ⟨t304, A30, H⟩ := H
 try dsimp only at H
 have A3 := Aside0.mk A30
 clear A30
 obtain rfl := Option.some.inj H
 go_enter Tryz.func33, Tryz.ntmps33
 go_wp2_with (first | ((with_reducible refine gC 55 rfl ?_); refine gl_ 7 Tryz.func55 #[.slice A0 l0.length c0, .int .i64 a1] ?_; (with_reducible refine (slices_Index_int_int.calls k _ _ l0 a1 t304 _ ?side1 HC0.out A3.out).mono ?_); (case side1 => exact zz); rintro e w' ⟨rfl, ⟨nd, rfl⟩⟩; refine ⟨_, rfl, ?_⟩))
 go_ret
 exact ⟨ar, dr⟩

/-! ### interchangeref10_inside: function 14 -/
def interchangeref10_inside.l0 : Nat → List (S42) → ByteArray → List Int → Int → Int → Option (List Int)
 | 0, _, _, _, _, _ => none
 | k + 1, x0, x1, x5, x10, x11 => if x11 < x10 then ((interchangeref10_up.f k x0 x11).bind fun bt305 => (if x1.toList = ([] : List UInt8) then (if x5.length < 17592186044416 then (interchangeref10_inside.l0 k x0 x1 (x5 ++ [x11]) x10 (wrap64 (x11 + 1))) else (none)) else ((interchangeref10_parcelOf.f k x0 x1).bind fun t312 => ((slices_Contains_int_int.f k bt305.1 t312).bind fun t313 => (if t313 = true then (if x5.length < 17592186044416 then (interchangeref10_inside.l0 k x0 x1 (x5 ++ [x11]) x10 (wrap64 (x11 + 1))) else (none)) else (interchangeref10_inside.l0 k x0 x1 x5 x10 (wrap64 (x11 + 1)))))))) else (some x5)
def interchangeref10_inside.f (k : Nat) (l0 : List (S42)) (a1 : ByteArray) : Option (List Int) := interchangeref10_inside.l0 k l0 a1 ([] : List Int) (l0.length : Int) 0
theorem interchangeref10_inside.mono_l : ∀ k, (∀ y0 y1 y2 y3 y4, LeO (interchangeref10_inside.l0 k y0 y1 y2 y3 y4) (interchangeref10_inside.l0 (k + 1) y0 y1 y2 y3 y4))
 | 0 => fun _ _ _ _ _ r h => by simp [interchangeref10_inside.l0] at h
 | k + 1 => by
  have ih0 := interchangeref10_inside.mono_l k
  ·intro y0 y1 y2 y3 y4
   unfold interchangeref10_inside.l0
   repeat' first | with_reducible first | exact ih0 _ _ _ _ _ | exact interchangeref10_parcelOf.mono _ _ _ | exact interchangeref10_up.mono _ _ _ | exact slices_Contains_int_int.mono _ _ _ | exact lr _ | exact ln _ | refine li ?_ ?_ | refine lb ?_ fun _ => ?_ | exact ih0 _ _ _ _ _ | exact interchangeref10_parcelOf.mono _ _ _ | exact interchangeref10_up.mono _ _ _ | exact slices_Contains_int_int.mono _ _ _ | exact ln _ | refine li ?_ ?_ | refine lb ?_ fun _ => ?_
theorem interchangeref10_inside.mono : ∀ a0 a1 k, LeO (interchangeref10_inside.f k a0 a1) (interchangeref10_inside.f (k + 1) a0 a1) := by
 intro a0 a1 k
 have ih0 := interchangeref10_inside.mono_l k
 unfold interchangeref10_inside.f
 repeat' first | with_reducible first | exact ih0 _ _ _ _ _ | exact interchangeref10_parcelOf.mono _ _ _ | exact interchangeref10_up.mono _ _ _ | exact slices_Contains_int_int.mono _ _ _ | exact lr _ | exact ln _ | refine li ?_ ?_ | refine lb ?_ fun _ => ?_ | exact ih0 _ _ _ _ _ | exact interchangeref10_parcelOf.mono _ _ _ | exact interchangeref10_up.mono _ _ _ | exact slices_Contains_int_int.mono _ _ _ | exact ln _ | refine li ?_ ?_ | refine lb ?_ fun _ => ?_
set_option maxHeartbeats 8000000 in
set_option maxRecDepth 100000 in
theorem interchangeref10_inside.calls (k : Nat) (A0 : Option Addr) (c0 : Nat) (l0 : List (S42)) (a1 : ByteArray) (r : List Int) (w : World) (hr0 : Kd.C k42 w A0 l0.length l0) (hc0 : l0.length ≤ c0) (h : interchangeref10_inside.f k l0 a1 = some r) :
  Calls Tryz.prog 14 #[.slice A0 l0.length c0, .string a1] w fun e w' => ∃ v0_ : Value, e = .returned (v0_) ∧ Kd.R (Kd.int .i64) 3 w' w.heap.size (fun _ => True) v0_ r ∧ Below w.heap.size w w' := by
 have HR0 := Aside0.mk hr0
 have HC0 := Aside0.mk hc0
 clear hr0 hc0
 have HB := Aside0.mk (Below.refl w.heap.size w)
 have H := h
 unfold interchangeref10_inside.f at H
 clear h
 have H' := Aside0.mk H
 clear H
 go_enter Tryz.func14, Tryz.ntmps14
 go_wp2
 try simp only [sq]
 go_loopg [5, 11] k (fun kq v5 v11 w' => ∃ (x5_1 : List Int) (x11_1 : Int), v11 = .int .i64 x11_1 ∧ Aside0 (interchangeref10_inside.l0 kq l0 a1 x5_1 (l0.length : Int) x11_1 = some r) ∧ Aside0 (kq ≤ k) ∧ Aside0 (Kd.R (Kd.int .i64) 3 w' w.heap.size (fun _ => True) v5 x5_1) ∧ Aside0 (Below w.heap.size w w'))
 case atStart => exact ⟨(([] : List Int)), (0), ar, H', ⟨Nat.le_refl _⟩, ⟨by first | exact Kd.R_nil _ _ _ _ _ | exact Kd.N_nil _ _ _ _ _ | exact Kd.V_nil _ _ _ _ _ | exact Kd.Q_nil _ _ _ _ _ | exact Kd.S_nil _ _ _ _ _⟩, ⟨(zb w)⟩⟩
 case round =>
  clear H'
  try clear c1
  try clear p2
  obtain ⟨x5_1, x11_1, rfl, HA, HK1, HO_5, HB⟩ := hrel
  cases gk with
  | zero => exact absurd HA.out (by simp [interchangeref10_inside.l0])
  | succ k1 =>
   have H := HA.out
   clear HA
   simp only [interchangeref10_inside.l0] at H
   by_cases c3 : x11_1 < (l0.length : Int)
   ·rw [if_pos c3] at H
    have c3b0 : decide (x11_1 < (l0.length : Int)) = true := decide_eq_true c3
    clear c3
    replace H := Option.bind_eq_some_iff.mp H
    obtain ⟨⟨t305, t306⟩, A40, H⟩ := H
    try dsimp only at H
    have A4 := Aside0.mk A40
    clear A40
    by_cases c5 : a1.toList = ([] : List UInt8)
    ·rw [if_pos c5] at H
     have c5b0 : (a1.toList == ([] : List UInt8)) = true := beq_iff_eq.mpr c5
     have c5b1 : (a1.toList != ([] : List UInt8)) = false := bne_eq_false_iff_eq.mpr c5
     clear c5
     by_cases c6 : x5_1.length < 17592186044416
     ·rw [if_pos c6] at H
      have LMc6 := Aside0.mk c6
      clear c6
      obtain ⟨y309, hy309⟩ : ∃ y_ : List Int, y_ = (x5_1 ++ [x11_1]) := ⟨_, rfl⟩
      replace H : (interchangeref10_inside.l0 k1 l0 a1 y309 (l0.length : Int) (wrap64 (x11_1 + 1))) = some r := by first | (rw [hy309]; with_reducible exact H) | (have H2_ := (Option.bind_some _ _).symm.trans H; rw [hy309]; with_reducible exact H2_) | (have H2_ := (Option.bind_some _ _).symm.trans H; with_reducible exact H2_) | with_reducible exact H | (rw [hy309]; exact H) | exact H
      have Ny309 := Aside0.mk hy309
      clear hy309
      have H' := Aside0.mk H
      clear H
      go_wp2_with (first | ((with_reducible refine gC 27 rfl ?_); refine gl_ 17 Tryz.func27 #[.slice A0 l0.length c0, .int .i64 x11_1] ?_; (with_reducible refine (interchangeref10_up.calls k1 _ _ l0 x11_1 t305 t306 _ (zc HR0) HC0.out A4.out).mono ?_); rintro e w7 ⟨v307, rfl, ho0, hb⟩; refine ⟨_, rfl, ?_⟩; have HO308 := Aside0.mk (Kd.R_lower (Kd.R_new' ho0 (Kd.R_lt (zo HO_5))) (below_size (zb w))); replace HO_5 := Aside0.mk (Kd.R_elder' (zo HO_5) (Kd.R_base ho0) hb); replace HB := hs w hb; (try clear hb); (try clear ho0)) | ((with_reducible refine gate_builtin (b := .append) (xs := #[.tmp 29, .tmp 31]) rfl ?_); at_builtin; refine Kd.R_append (Kd.int .i64) (w0 := w) w.heap.size rfl (.tmp 29) (.tmp 31) 35 3 (.int .i64 0) 8 rfl Tryz.underlying35 info3 rfl (by decide) (by omega) u5 x5_1 x11_1 [.int .i64 x11_1] (fun k_ => some k_ ≠ (v307 : Value).ownBlock) (fun _ => False) rfl rfl ?aP (fun _ hk => hk.elim) ?aF ?aO ?aB ?aS ?aL ?_; (case aP => exact rfl); (case aB => exact (zb w)); (case aF => exact (fun k_ hk => Kd.fresh' (Kd.R_lt (zo HO308)) k_ hk)); (case aO => exact (by (with_reducible repeat (first | apply Kd.R_alloc | apply Kd.R_drewN | apply Kd.R_drew)); exact Kd.R_mono HO_5.out (fun _ hk => hk.2))); (case aS => exact (below_size (zb w))); (case aL => have := LMc6.out; omega); intro v310 w8 ho hb hg hat; rw [← Ny309.out] at ho; replace HO308 := Aside0.mk (Kd.R_after (ok := (fun _ => True)) (zo HO308) hg hat); replace HB := Aside0.mk (hb); have HO311 := Aside0.mk (ho); clear HO_5; clear ho hb hg hat))
      go_roundg k1
      case measure => have := HK1.out; omega
      case rel => exact ⟨(y309), (wrap64 (x11_1 + 1)), ar, H', ⟨by have := HK1.out; omega⟩, ⟨by (with_reducible repeat (first | apply Kd.R_alloc | apply Kd.R_drewN | apply Kd.R_drew)); exact Kd.R_mono HO311.out (fun _ hk => trivial)⟩, ⟨(zb w)⟩⟩
     ·rw [if_neg c6] at H
      exact absurd H (by simp)
    ·rw [if_neg c5] at H
     have c5b0 : (a1.toList == ([] : List UInt8)) = false := beq_eq_false_iff_ne.mpr c5
     have c5b1 : (a1.toList != ([] : List UInt8)) = true := bne_iff_ne.mpr c5
     replace H := Option.bind_eq_some_iff.mp H
     obtain ⟨t312, A90, H⟩ := H
     try dsimp only at H
     have A9 := Aside0.mk A90
     clear A90
     replace H := Option.bind_eq_some_iff.mp H
     obtain ⟨t313, A100, H⟩ := H
     try dsimp only at H
     have A10 := Aside0.mk A100
     clear A100
     by_cases c11 : t313 = true
     ·subst c11
      have H1 : (if x5_1.length < 17592186044416 then (interchangeref10_inside.l0 k1 l0 a1 (x5_1 ++ [x11_1]) (l0.length : Int) (wrap64 (x11_1 + 1))) else (none)) = some r := by rw [if_pos rfl] at H; exact H
      clear H
      have H := H1
      clear H1
      by_cases c12 : x5_1.length < 17592186044416
      ·rw [if_pos c12] at H
       have LMc12 := Aside0.mk c12
       clear c12
       obtain ⟨y314, hy314⟩ : ∃ y_ : List Int, y_ = (x5_1 ++ [x11_1]) := ⟨_, rfl⟩
       replace H : (interchangeref10_inside.l0 k1 l0 a1 y314 (l0.length : Int) (wrap64 (x11_1 + 1))) = some r := by first | (rw [hy314]; with_reducible exact H) | (have H2_ := (Option.bind_some _ _).symm.trans H; rw [hy314]; with_reducible exact H2_) | (have H2_ := (Option.bind_some _ _).symm.trans H; with_reducible exact H2_) | with_reducible exact H | (rw [hy314]; exact H) | exact H
       have Ny314 := Aside0.mk hy314
       clear hy314
       have H' := Aside0.mk H
       clear H
       go_wp2_with (first | ((with_reducible refine gC 27 rfl ?_); refine gl_ 17 Tryz.func27 #[.slice A0 l0.length c0, .int .i64 x11_1] ?_; (with_reducible refine (interchangeref10_up.calls k1 _ _ l0 x11_1 t305 t306 _ (zc HR0) HC0.out A4.out).mono ?_); rintro e w13 ⟨v307, rfl, ho0, hb⟩; refine ⟨_, rfl, ?_⟩; have HO308 := Aside0.mk (Kd.R_lower (Kd.R_new' ho0 (Kd.R_lt (zo HO_5))) (below_size (zb w))); replace HO_5 := Aside0.mk (Kd.R_elder' (zo HO_5) (Kd.R_base ho0) hb); replace HB := hs w hb; (try clear hb); (try clear ho0)) | (go_at_call 12; (with_reducible refine (interchangeref10_parcelOf.calls k1 _ _ l0 a1 t312 _ (zc HR0) HC0.out A9.out).mono ?_); rintro e w14 ⟨rfl, hb⟩; replace HO_5 := rb HO_5 hb; replace HO308 := rb HO308 hb; replace HB := hs w hb; (try clear hb); obtain ⟨Ao15, co15, eo15⟩ := Kd.R_slice HO308.out; subst eo15) | (go_at_call 33; (with_reducible refine (slices_Contains_int_int.calls k1 _ _ t305 t312 true _ ?side1 ?side2 A10.out).mono ?_); (case side1 => repeat (first | exact (Kd.R_reads' HO308.out).2.2 | (with_reducible refine Kd.C_alloc ?_ _) | (with_reducible refine Kd.C_drewN ?_ _) | (with_reducible refine Kd.C_drew ?_))); (case side2 => exact (Kd.R_reads' HO308.out).2.1); rintro e w' ⟨rfl, ⟨nd, rfl⟩⟩) | ((with_reducible refine gate_builtin (b := .append) (xs := #[.tmp 29, .tmp 31]) rfl ?_); at_builtin; refine Kd.R_append (Kd.int .i64) (w0 := w) w.heap.size rfl (.tmp 29) (.tmp 31) 35 3 (.int .i64 0) 8 rfl Tryz.underlying35 info3 rfl (by decide) (by omega) u5 x5_1 x11_1 [.int .i64 x11_1] (fun k_ => some k_ ≠ (.slice Ao15 t305.length co15 : Value).ownBlock) (fun _ => False) rfl rfl ?aP (fun _ hk => hk.elim) ?aF ?aO ?aB ?aS ?aL ?_; (case aP => exact rfl); (case aB => exact (zb w)); (case aF => exact (fun k_ hk => Kd.fresh' (Kd.R_lt (zo HO308)) k_ hk)); (case aO => exact (by (with_reducible repeat (first | apply Kd.R_alloc | apply Kd.R_drewN | apply Kd.R_drew)); exact Kd.R_mono HO_5.out (fun _ hk => hk.2))); (case aS => exact (below_size (zb w))); (case aL => have := LMc12.out; omega); intro v315 w16 ho hb hg hat; rw [← Ny314.out] at ho; replace HO308 := Aside0.mk (Kd.R_after (ok := (fun _ => True)) (zo HO308) hg hat); replace HB := Aside0.mk (hb); have HO316 := Aside0.mk (ho); clear HO_5; clear ho hb hg hat))
       go_roundg k1
       case measure => have := HK1.out; omega
       case rel => exact ⟨(y314), (wrap64 (x11_1 + 1)), ar, H', ⟨by have := HK1.out; omega⟩, ⟨by (with_reducible repeat (first | apply Kd.R_alloc | apply Kd.R_drewN | apply Kd.R_drew)); exact Kd.R_mono HO316.out (fun _ hk => trivial)⟩, ⟨(zb w)⟩⟩
      ·rw [if_neg c12] at H
       exact absurd H (by simp)
     ·replace c11 := Bool.eq_false_iff.mpr c11
      subst c11
      have H1 : (interchangeref10_inside.l0 k1 l0 a1 x5_1 (l0.length : Int) (wrap64 (x11_1 + 1))) = some r := by rw [if_neg (show ¬ (false = true) by decide)] at H; exact H
      clear H
      have H := H1
      clear H1
      have H' := Aside0.mk H
      clear H
      go_wp2_with (first | ((with_reducible refine gC 27 rfl ?_); refine gl_ 17 Tryz.func27 #[.slice A0 l0.length c0, .int .i64 x11_1] ?_; (with_reducible refine (interchangeref10_up.calls k1 _ _ l0 x11_1 t305 t306 _ (zc HR0) HC0.out A4.out).mono ?_); rintro e w17 ⟨v307, rfl, ho0, hb⟩; refine ⟨_, rfl, ?_⟩; have HO308 := Aside0.mk (Kd.R_lower (Kd.R_new' ho0 (Kd.R_lt (zo HO_5))) (below_size (zb w))); replace HO_5 := Aside0.mk (Kd.R_elder' (zo HO_5) (Kd.R_base ho0) hb); replace HB := hs w hb; (try clear hb); (try clear ho0)) | (go_at_call 12; (with_reducible refine (interchangeref10_parcelOf.calls k1 _ _ l0 a1 t312 _ (zc HR0) HC0.out A9.out).mono ?_); rintro e w18 ⟨rfl, hb⟩; replace HO_5 := rb HO_5 hb; replace HO308 := rb HO308 hb; replace HB := hs w hb; (try clear hb); obtain ⟨Ao19, co19, eo19⟩ := Kd.R_slice HO308.out; subst eo19) | (go_at_call 33; (with_reducible refine (slices_Contains_int_int.calls k1 _ _ t305 t312 false _ ?side1 ?side2 A10.out).mono ?_); (case side1 => repeat (first | exact (Kd.R_reads' HO308.out).2.2 | (with_reducible refine Kd.C_alloc ?_ _) | (with_reducible refine Kd.C_drewN ?_ _) | (with_reducible refine Kd.C_drew ?_))); (case side2 => exact (Kd.R_reads' HO308.out).2.1); rintro e w' ⟨rfl, ⟨nd, rfl⟩⟩))
      go_roundg k1
      case measure => have := HK1.out; omega
      case rel => exact ⟨(x5_1), (wrap64 (x11_1 + 1)), ar, H', ⟨by have := HK1.out; omega⟩, ⟨by (with_reducible repeat (first | apply Kd.R_alloc | apply Kd.R_drewN | apply Kd.R_drew)); exact Kd.R_mono HO_5.out (fun _ hk => trivial)⟩, ⟨(zb w)⟩⟩
   ·rw [if_neg c3] at H
    have c3b0 : decide (x11_1 < (l0.length : Int)) = false := decide_eq_false c3
    clear c3
    obtain rfl := Option.some.inj H
    go_wp2
    go_ret
    exact ⟨_, by first | rfl | (simp [errW_none, errW_some] <;> rfl) | (simp [*, errW_none, errW_some] <;> rfl), by (with_reducible repeat (first | apply Kd.R_alloc | apply Kd.R_drewN | apply Kd.R_drew)); exact HO_5.out, (zb w)⟩

/-! ### interchangeref10_Within: function 4 -/
def interchangeref10_Within.l0 : Nat → ByteArray → List ByteArray → List ByteArray → Int → Int → Option (List ByteArray × Int)
 | 0, _, _, _, _, _ => none
 | k + 1, x1, x7, x26, x27, x28 => if x28 < x27 then (if 0 ≤ x28 then (if x28 < (x26.length : Int) then (if (rdOf ByteArray.empty x26 x28).toList = x1.toList then (interchangeref10_Within.l0 k x1 x7 x26 x27 (wrap64 (x28 + 1))) else (if x7.length < 8796093022208 then (interchangeref10_Within.l0 k x1 (x7 ++ [rdOf ByteArray.empty x26 x28]) x26 x27 (wrap64 (x28 + 1))) else (none))) else (none)) else (none)) else (some (x7, 0))
def interchangeref10_Within.f (k : Nat) (a0_0 : ByteArray) (a0_1 : ByteArray) (a0_2 : Int) (l0_3 : List (S42)) (a1 : ByteArray) : Option (List ByteArray × Int) := (interchangeref10_CheckAdvice.f k a0_0 a0_1 a0_2 l0_3).bind fun t318 => (if t318 = 0 then ((interchangeref10_parcelOf.f k l0_3 a1).bind fun t319 => (if t319 < 0 then (some (([] : List ByteArray), 9)) else ((interchangeref10_inside.f k l0_3 a1).bind fun t320 => ((interchangeref10_labels.f k l0_3 t320).bind fun t323 => (interchangeref10_Within.l0 k a1 ([] : List ByteArray) t323 (t323.length : Int) 0))))) else (some (([] : List ByteArray), t318)))
theorem interchangeref10_Within.mono_l : ∀ k, (∀ y0 y1 y2 y3 y4, LeO (interchangeref10_Within.l0 k y0 y1 y2 y3 y4) (interchangeref10_Within.l0 (k + 1) y0 y1 y2 y3 y4))
 | 0 => fun _ _ _ _ _ r h => by simp [interchangeref10_Within.l0] at h
 | k + 1 => by
  have ih0 := interchangeref10_Within.mono_l k
  ·intro y0 y1 y2 y3 y4
   unfold interchangeref10_Within.l0
   repeat' first | with_reducible first | exact ih0 _ _ _ _ _ | exact interchangeref10_CheckAdvice.mono _ _ _ _ _ | exact interchangeref10_inside.mono _ _ _ | exact interchangeref10_labels.mono _ _ _ | exact interchangeref10_parcelOf.mono _ _ _ | exact lr _ | exact ln _ | refine li ?_ ?_ | refine lb ?_ fun _ => ?_ | exact ih0 _ _ _ _ _ | exact interchangeref10_CheckAdvice.mono _ _ _ _ _ | exact interchangeref10_inside.mono _ _ _ | exact interchangeref10_labels.mono _ _ _ | exact interchangeref10_parcelOf.mono _ _ _ | exact ln _ | refine li ?_ ?_ | refine lb ?_ fun _ => ?_
theorem interchangeref10_Within.mono : ∀ a0 a1 a2 a3 a4 k, LeO (interchangeref10_Within.f k a0 a1 a2 a3 a4) (interchangeref10_Within.f (k + 1) a0 a1 a2 a3 a4) := by
 intro a0 a1 a2 a3 a4 k
 have ih0 := interchangeref10_Within.mono_l k
 unfold interchangeref10_Within.f
 repeat' first | with_reducible first | exact ih0 _ _ _ _ _ | exact interchangeref10_CheckAdvice.mono _ _ _ _ _ | exact interchangeref10_inside.mono _ _ _ | exact interchangeref10_labels.mono _ _ _ | exact interchangeref10_parcelOf.mono _ _ _ | exact lr _ | exact ln _ | refine li ?_ ?_ | refine lb ?_ fun _ => ?_ | exact ih0 _ _ _ _ _ | exact interchangeref10_CheckAdvice.mono _ _ _ _ _ | exact interchangeref10_inside.mono _ _ _ | exact interchangeref10_labels.mono _ _ _ | exact interchangeref10_parcelOf.mono _ _ _ | exact ln _ | refine li ?_ ?_ | refine lb ?_ fun _ => ?_
def interchangeref10_Within.T7 : Bool × List (List Nat × List Nat) := (true, [([], []), ([0], [0]), ([], []), ([2], [2]), ([], []), ([3, 4], [3, 4]), ([1, 5, 5], [1, 5]), ([6], [6]), ([], [])])
def interchangeref10_Within.B7 : List Nat := [0, 1, 0, 4, 0, 28, 63, 127, 0]
theorem interchangeref10_Within.tab7 : rtab .any (opsOf Tryz.f4 7) = interchangeref10_Within.T7 := by kernel_rfl
theorem interchangeref10_Within.bits7 : waitsOk interchangeref10_Within.T7.2 interchangeref10_Within.B7 = true := by kernel_rfl
set_option maxHeartbeats 8000000 in
set_option maxRecDepth 100000 in
theorem interchangeref10_Within.calls (k : Nat) (a0_0 : ByteArray) (a0_1 : ByteArray) (a0_2 : Int) (A0_3 : Option Addr) (c0_3 : Nat) (l0_3 : List (S42)) (a1 : ByteArray) (r1 : List ByteArray) (r2 : Int) (w : World) (hr0_3 : Kd.C k42 w A0_3 l0_3.length l0_3) (hc0_3 : l0_3.length ≤ c0_3) (h : interchangeref10_Within.f k a0_0 a0_1 a0_2 l0_3 a1 = some (r1, r2)) :
  Calls Tryz.prog 4 #[.agg #[.string a0_0, .string a0_1, .int .i64 a0_2, .slice A0_3 l0_3.length c0_3], .string a1] w fun e w' => ∃ v0_ : Value, e = .returned (.tuple #[v0_, .int .i64 r2]) ∧ Kd.R Kd.string 9 w' w.heap.size (fun _ => True) v0_ r1 ∧ Below w.heap.size w w' := by
 have hu24 := Tryz.underlying24
 have HR0_3 := Aside0.mk hr0_3
 have HC0_3 := Aside0.mk hc0_3
 clear hr0_3 hc0_3
 have HB := Aside0.mk (Below.refl w.heap.size w)
 have H := h
 unfold interchangeref10_Within.f at H
 clear h
 replace H := Option.bind_eq_some_iff.mp H
 obtain ⟨t318, A30, H⟩ := H
 try dsimp only at H
 have A3 := Aside0.mk A30
 clear A30
 by_cases c4 : t318 = 0
 ·rw [if_pos c4] at H
  have c4b0 : (t318 == 0) = true := beq_iff_eq.mpr c4
  have c4b1 : (t318 != 0) = false := bne_eq_false_iff_eq.mpr c4
  clear c4
  replace H := Option.bind_eq_some_iff.mp H
  obtain ⟨t319, A50, H⟩ := H
  try dsimp only at H
  have A5 := Aside0.mk A50
  clear A50
  by_cases c6 : t319 < 0
  ·rw [if_pos c6] at H
   have c6b0 : decide (t319 < 0) = true := decide_eq_true c6
   clear c6
   simp only [Option.some.injEq, Prod.mk.injEq] at H
   obtain ⟨rfl, rfl⟩ := H
   go_enter Tryz.func4, Tryz.ntmps4
   go_wp2_with (first | ((with_reducible refine gD 2 rfl ?_); refine bx w 2 #[.string a0_0, .string a0_1, .int .i64 a0_2, .slice A0_3 l0_3.length c0_3] 24 ?_; intro gb317 hg w7 hb BK317 GW317 GE317; clear HB; intro HB; clear hb hg; obtain ⟨hcz8_0, hcz8_1, hcz8_2, hcz8_3, hfz8_0, hfz8_1, hfz8_2, hfz8_3⟩ := cz4 BK317) | ((with_reducible refine gC 6 rfl ?_); refine gl_ 11 Tryz.func6 #[.agg #[.string a0_0, .string a0_1, .int .i64 a0_2, .slice A0_3 l0_3.length c0_3]] ?_; (with_reducible refine (interchangeref10_CheckAdvice.calls k a0_0 a0_1 a0_2 _ _ l0_3 t318 _ (zc HR0_3) HC0_3.out A3.out).mono ?_); rintro e w9 ⟨rfl, hb⟩; refine ⟨_, rfl, ?_⟩; replace BK317 := bb BK317 hb; replace HB := hs w hb; (try clear hb); obtain ⟨hcz10_0, hcz10_1, hcz10_2, hcz10_3, hfz10_0, hfz10_1, hfz10_2, hfz10_3⟩ := cz4 BK317) | ((with_reducible refine gC 12 rfl ?_); refine gl_ 18 Tryz.func12 #[.slice A0_3 l0_3.length c0_3, .string a1] ?_; (with_reducible refine (interchangeref10_parcelOf.calls k _ _ l0_3 a1 t319 _ (zc HR0_3) HC0_3.out A5.out).mono ?_); rintro e w11 ⟨rfl, hb⟩; refine ⟨_, rfl, ?_⟩; replace BK317 := bb BK317 hb; replace HB := hs w hb; (try clear hb)))
   go_ret2
   exact ⟨_, by first | rfl | (simp [errW_none, errW_some] <;> rfl) | (simp [*, errW_none, errW_some] <;> rfl), by first | exact Kd.R_nil _ _ _ _ _ | exact Kd.N_nil _ _ _ _ _ | exact Kd.V_nil _ _ _ _ _ | exact Kd.Q_nil _ _ _ _ _ | exact Kd.S_nil _ _ _ _ _, (zb w)⟩
  ·rw [if_neg c6] at H
   have c6b0 : decide (t319 < 0) = false := decide_eq_false c6
   clear c6
   replace H := Option.bind_eq_some_iff.mp H
   obtain ⟨t320, A120, H⟩ := H
   try dsimp only at H
   have A12 := Aside0.mk A120
   clear A120
   replace H := Option.bind_eq_some_iff.mp H
   obtain ⟨t323, A130, H⟩ := H
   try dsimp only at H
   have A13 := Aside0.mk A130
   clear A130
   have H' := Aside0.mk H
   clear H
   go_enter Tryz.func4, Tryz.ntmps4
   try go_wp2_with (first | ((with_reducible refine gD 2 rfl ?_); refine bx w 2 #[.string a0_0, .string a0_1, .int .i64 a0_2, .slice A0_3 l0_3.length c0_3] 24 ?_; intro gb317 hg w14 hb BK317 GW317 GE317; clear HB; intro HB; clear hb hg; obtain ⟨hcz15_0, hcz15_1, hcz15_2, hcz15_3, hfz15_0, hfz15_1, hfz15_2, hfz15_3⟩ := cz4 BK317) | ((with_reducible refine gC 6 rfl ?_); refine gl_ 11 Tryz.func6 #[.agg #[.string a0_0, .string a0_1, .int .i64 a0_2, .slice A0_3 l0_3.length c0_3]] ?_; (with_reducible refine (interchangeref10_CheckAdvice.calls k a0_0 a0_1 a0_2 _ _ l0_3 t318 _ (zc HR0_3) HC0_3.out A3.out).mono ?_); rintro e w16 ⟨rfl, hb⟩; refine ⟨_, rfl, ?_⟩; replace BK317 := bb BK317 hb; replace HB := hs w hb; (try clear hb); obtain ⟨hcz17_0, hcz17_1, hcz17_2, hcz17_3, hfz17_0, hfz17_1, hfz17_2, hfz17_3⟩ := cz4 BK317) | ((with_reducible refine gC 12 rfl ?_); refine gl_ 18 Tryz.func12 #[.slice A0_3 l0_3.length c0_3, .string a1] ?_; (with_reducible refine (interchangeref10_parcelOf.calls k _ _ l0_3 a1 t319 _ (zc HR0_3) HC0_3.out A5.out).mono ?_); rintro e w18 ⟨rfl, hb⟩; refine ⟨_, rfl, ?_⟩; replace BK317 := bb BK317 hb; replace HB := hs w hb; (try clear hb)))
   have n0_ := Aside0.mk (blk_drew BK317.out)
   have n1_ := Aside0.mk (below_drew1 HB.out)
   clear BK317
   clear HB
   have BK317 := n0_
   have HB := n1_
   clear n0_ n1_
   refine start_ (n := 9) (S := fun w' => w'.cell? ⟨gb317, 0, none⟩ = some (.string a0_0) ∧ w'.cell? ⟨gb317, 1, none⟩ = some (.string a0_1) ∧ w'.cell? ⟨gb317, 2, none⟩ = some (.int .i64 a0_2) ∧ w'.cell? ⟨gb317, 3, none⟩ = some (.slice A0_3 l0_3.length c0_3)) (ds := []) (bm 9 0) (by kernel_rfl) rfl rfl ⟨(blk_cell BK317.out 0).trans rfl, (blk_cell BK317.out 1).trans rfl, (blk_cell BK317.out 2).trans rfl, (blk_cell BK317.out 3).trans rfl⟩ (fun hHeld => ?_); refine with_tabW interchangeref10_Within.tab7 interchangeref10_Within.bits7 (fun HT_ HW_ => ?_)
   generalize w18.drew = w19 at BK317 HB hHeld ⊢
   refine pu 0 20 (bm 9 1) HT_ ?_
   refine pu 2 22 (bm 9 5) HT_ ?_
   refine pu 4 24 (bm 9 21) HT_ ?_
   refine pu 8 28 (bm 9 277) HT_ ?_
   refine ta4 1 21 (bm 9 279) HT_ HW_ hHeld ?_
   refine ta4 3 23 (bm 9 287) HT_ HW_ hHeld ?_
   refine one_ (i := 5) (N := some 25) (bm 9 319) rfl rfl (one_of HT_.out (by kernel_rfl)) (by decide) (fun K hK => ?_)
   refine gs Tryz.func14 #[.slice A0_3 l0_3.length c0_3, .string a1] ?_
   with_reducible refine (interchangeref10_inside.calls k _ _ l0_3 a1 t320 _ (zc HR0_3) HC0_3.out A12.out).mono ?_
   rintro e w20 ⟨v321, rfl, ho0, hb⟩
   refine ⟨_, rfl, ?_⟩
   have n0_ := Aside0.mk (Kd.R_lower ho0 (below_size (zb w)))
   have n1_ := bb BK317 hb
   have n2_ := hs w hb
   clear BK317
   clear HB
   have HO322 := n0_
   have BK317 := n1_
   have HB := n2_
   clear n0_ n1_ n2_
   (try clear hb)
   (try clear hb2)
   (try clear hk)
   (try clear hi)
   (try clear ho0)
   obtain ⟨Ao21, co21, eo21⟩ := Kd.R_slice HO322.out
   (first | subst eo21 | (injection eo21 with f1_ f2_ f3_; have f4_ := f1_.symm; have f5_ := f3_.symm; clear f1_ f2_ f3_; subst f4_; subst f5_))
   refine hK.out _ _ ⟨(blk_cell BK317.out 0).trans rfl, (blk_cell BK317.out 1).trans rfl, (blk_cell BK317.out 2).trans rfl, (blk_cell BK317.out 3).trans rfl⟩ (fun hHeld => ?_)
   clear hK K
   refine norm_ (a' := ?_) ?_ ?_
   rotate_left
   ·show Act.put _ (some 25) _ = _
    simp only [sq, i64_w, i32_w]
    rfl
   refine one_ (i := 6) (N := some 26) (bm 9 383) rfl rfl (one_of HT_.out (by kernel_rfl)) (by decide) (fun K hK => ?_)
   refine gs Tryz.func13 #[.slice A0_3 l0_3.length c0_3, .slice Ao21 t320.length co21] ?_
   with_reducible refine (interchangeref10_labels.calls k _ _ l0_3 _ _ t320 t323 _ (zc HR0_3) HC0_3.out ?side3 ?side4 A13.out).mono ?_
   (case side3 => repeat (first | exact (Kd.R_reads' HO322.out).2.2 | (with_reducible refine Kd.C_alloc ?_ _) | (with_reducible refine Kd.C_drewN ?_ _) | (with_reducible refine Kd.C_drew ?_)))
   (case side4 => exact (Kd.R_reads' HO322.out).2.1)
   rintro e w22 ⟨v324, rfl, ho0, hb⟩
   refine ⟨_, rfl, ?_⟩
   have n0_ := rb HO322 hb
   have n1_ := Aside0.mk (Kd.R_lower ho0 (below_size (zb w)))
   have n2_ := bb BK317 hb
   have n3_ := hs w hb
   clear HO322
   clear BK317
   clear HB
   have HO322 := n0_
   have HO325 := n1_
   have BK317 := n2_
   have HB := n3_
   clear n0_ n1_ n2_ n3_
   (try clear hb)
   (try clear hb2)
   (try clear hk)
   (try clear hi)
   (try clear ho0)
   obtain ⟨Ao23, co23, eo23⟩ := Kd.R_slice HO325.out
   (first | subst eo23 | (injection eo23 with f1_ f2_ f3_; have f4_ := f1_.symm; have f5_ := f3_.symm; clear f1_ f2_ f3_; subst f4_; subst f5_))
   refine hK.out _ _ ⟨(blk_cell BK317.out 0).trans rfl, (blk_cell BK317.out 1).trans rfl, (blk_cell BK317.out 2).trans rfl, (blk_cell BK317.out 3).trans rfl⟩ (fun hHeld => ?_)
   clear hK K
   refine norm_ (a' := ?_) ?_ ?_
   rotate_left
   ·show Act.put _ (some 26) _ = _
    simp only [sq, i64_w, i32_w]
    rfl
   refine pu 7 27 (bm 9 511) HT_ ?_
   refine done_ (done_of HT_.out (by kernel_rfl)) ?_
   try go_wp2
   try simp only [sq]
   go_loopg [7, 28] k (fun kq v7 v28 w' => ∃ (x7_1 : List ByteArray) (x28_1 : Int), v28 = .int .i64 x28_1 ∧ Aside0 (interchangeref10_Within.l0 kq a1 x7_1 t323 (t323.length : Int) x28_1 = some (r1, r2)) ∧ Aside0 (kq ≤ k) ∧ Aside0 (Kd.R Kd.string 9 w' w.heap.size (fun k_ => some k_ ≠ ((.slice Ao23 t323.length co23) : Value).ownBlock) v7 x7_1) ∧ Aside0 (Kd.R Kd.string 9 w' w.heap.size (fun k_ => some k_ ≠ (v7 : Value).ownBlock) (.slice Ao23 t323.length co23) t323) ∧ Aside0 (w'.heap[gb317]? = some (.cells #[.string a0_0, .string a0_1, .int .i64 a0_2, (.slice A0_3 l0_3.length c0_3)] 24 (0, 0))) ∧ Aside0 (Below w.heap.size w w'))
   case atStart => exact ⟨(([] : List ByteArray)), (0), ar, H', ⟨Nat.le_refl _⟩, ⟨by first | exact Kd.R_nil _ _ _ _ _ | exact Kd.N_nil _ _ _ _ _ | exact Kd.V_nil _ _ _ _ _ | exact Kd.Q_nil _ _ _ _ _ | exact Kd.S_nil _ _ _ _ _⟩, ⟨by (with_reducible repeat (first | apply Kd.R_alloc | apply Kd.R_drewN | apply Kd.R_drew)); exact Kd.R_mono HO325.out (fun _ hk => (by simp [Value.ownBlock]))⟩, ⟨(zk BK317)⟩, ⟨(zb w)⟩⟩
   case round =>
    clear H'
    try clear c1
    try clear p2
    try clear c4
    try clear c4b0
    try clear c4b1
    try clear c6
    try clear c6b0
    try clear c12
    try clear c13
    try clear c14
    try clear hcz10_0 hcz10_1 hcz10_2 hcz10_3
    try clear hcz15_0 hcz15_1 hcz15_2 hcz15_3
    try clear hcz17_0 hcz17_1 hcz17_2 hcz17_3
    try clear hcz8_0 hcz8_1 hcz8_2 hcz8_3
    try clear hfz10_0 hfz10_1 hfz10_2 hfz10_3
    try clear hfz15_0 hfz15_1 hfz15_2 hfz15_3
    try clear hfz17_0 hfz17_1 hfz17_2 hfz17_3
    try clear hfz8_0 hfz8_1 hfz8_2 hfz8_3
    obtain ⟨x7_1, x28_1, rfl, HA, HK1, HO_7, HO_26, BK317, HB⟩ := hrel
    cases gk with
    | zero => exact absurd HA.out (by simp [interchangeref10_Within.l0])
    | succ k1 =>
     have H := HA.out
     clear HA
     simp only [interchangeref10_Within.l0] at H
     by_cases c24 : x28_1 < (t323.length : Int)
     ·rw [if_pos c24] at H
      have c24b0 : decide (x28_1 < (t323.length : Int)) = true := decide_eq_true c24
      clear c24
      by_cases c25 : 0 ≤ x28_1
      ·rw [if_pos c25] at H
       have c25b0 : decide (0 ≤ x28_1) = true := decide_eq_true c25
       clear c25
       by_cases c26 : x28_1 < (t323.length : Int)
       ·rw [if_pos c26] at H
        have c26b0 : decide (x28_1 < (t323.length : Int)) = true := decide_eq_true c26
        clear c26
        by_cases c27 : (rdOf ByteArray.empty t323 x28_1).toList = a1.toList
        ·rw [if_pos c27] at H
         have c27b0 : ((rdOf ByteArray.empty t323 x28_1).toList == a1.toList) = true := beq_iff_eq.mpr c27
         have c27b1 : ((rdOf ByteArray.empty t323 x28_1).toList != a1.toList) = false := bne_eq_false_iff_eq.mpr c27
         clear c27
         have H' := Aside0.mk H
         clear H
         have p326 : 0 ≤ (x28_1 : Int) := of_decide_eq_true (by assumption)
         have q326 : x28_1 < (t323.length : Int) := of_decide_eq_true (by assumption)
         obtain ⟨ad326, e326, hx326_0⟩ := Kd.at_string (Kd.R_reads' HO_26.out).2.2 x28_1 p326 q326
         cases e326
         replace p326 := eq_true p326
         replace q326 := eq_true q326
         go_wp2
         go_roundg k1
         case measure => have := HK1.out; omega
         case rel => exact ⟨(x7_1), (wrap64 (x28_1 + 1)), ar, H', ⟨by have := HK1.out; omega⟩, ⟨zo HO_7⟩, ⟨zo HO_26⟩, ⟨(zk BK317)⟩, ⟨(zb w)⟩⟩
        ·rw [if_neg c27] at H
         have c27b0 : ((rdOf ByteArray.empty t323 x28_1).toList == a1.toList) = false := beq_eq_false_iff_ne.mpr c27
         have c27b1 : ((rdOf ByteArray.empty t323 x28_1).toList != a1.toList) = true := bne_iff_ne.mpr c27
         by_cases c28 : x7_1.length < 8796093022208
         ·rw [if_pos c28] at H
          have LMc28 := Aside0.mk c28
          clear c28
          obtain ⟨y327, hy327⟩ : ∃ y_ : List ByteArray, y_ = (x7_1 ++ [rdOf ByteArray.empty t323 x28_1]) := ⟨_, rfl⟩
          replace H : (interchangeref10_Within.l0 k1 a1 y327 t323 (t323.length : Int) (wrap64 (x28_1 + 1))) = some (r1, r2) := by first | (rw [hy327]; with_reducible exact H) | (have H2_ := (Option.bind_some _ _).symm.trans H; rw [hy327]; with_reducible exact H2_) | (have H2_ := (Option.bind_some _ _).symm.trans H; with_reducible exact H2_) | with_reducible exact H | (rw [hy327]; exact H) | exact H
          have Ny327 := Aside0.mk hy327
          clear hy327
          have H' := Aside0.mk H
          clear H
          have p326 : 0 ≤ (x28_1 : Int) := of_decide_eq_true (by assumption)
          have q326 : x28_1 < (t323.length : Int) := of_decide_eq_true (by assumption)
          obtain ⟨ad326, e326, hx326_0⟩ := Kd.at_string (Kd.R_reads' HO_26.out).2.2 x28_1 p326 q326
          cases e326
          replace p326 := eq_true p326
          replace q326 := eq_true q326
          go_wp2_with (first | ((with_reducible refine gate_builtin (b := .append) (xs := #[.tmp 35, .tmp 37]) rfl ?_); at_builtin; refine Kd.R_append Kd.string (w0 := w) w.heap.size rfl (.tmp 35) (.tmp 37) 25 9 (.string ⟨#[]⟩) 16 rfl Tryz.underlying25 info9 rfl (by decide) (by omega) u7 x7_1 (rdOf ByteArray.empty t323 x28_1) [.string (rdOf ByteArray.empty t323 x28_1)] (fun k_ => some k_ ≠ (.slice (some ad326) t323.length co23 : Value).ownBlock) (fun _ => False) rfl rfl ?aP (fun _ hk => hk.elim) ?aF ?aO ?aB ?aS ?aL ?_; (case aP => exact rfl); (case aB => exact (zb w)); (case aF => exact (fun k_ hk => Kd.fresh' (Kd.R_lt (zo HO_26)) k_ hk)); (case aO => exact (zo HO_7)); (case aS => exact (below_size (zb w))); (case aL => have := LMc28.out; omega); intro v328 w29 ho hb hg hat; rw [← Ny327.out] at ho; replace HO_26 := Aside0.mk (Kd.R_after (ok := (fun _ => True)) (by (with_reducible repeat (first | apply Kd.R_alloc | apply Kd.R_drewN | apply Kd.R_drew)); exact Kd.R_mono HO_26.out (fun _ hk => ⟨trivial, hk⟩)) hg hat); replace BK317 := Aside0.mk (blk_grown (g := gb317) (o := .cells #[.string a0_0, .string a0_1, .int .i64 a0_2, .slice A0_3 l0_3.length c0_3] 24 (0, 0)) (zk BK317) hg (Kd.R_ne HO_7.out BK317.out (by decide))); replace HB := Aside0.mk (hb); have HO329 := Aside0.mk (ho); clear HO_7; clear ho hb hg hat))
          go_roundg k1
          case measure => have := HK1.out; omega
          case rel => exact ⟨(y327), (wrap64 (x28_1 + 1)), ar, H', ⟨by have := HK1.out; omega⟩, ⟨zo HO329⟩, ⟨by (with_reducible repeat (first | apply Kd.R_alloc | apply Kd.R_drewN | apply Kd.R_drew)); exact Kd.R_mono HO_26.out (fun _ hk => hk.2)⟩, ⟨(zk BK317)⟩, ⟨(zb w)⟩⟩
         ·rw [if_neg c28] at H
          exact absurd H (by simp)
       ·rw [if_neg c26] at H
        exact absurd H (by simp)
      ·rw [if_neg c25] at H
       exact absurd H (by simp)
     ·rw [if_neg c24] at H
      have c24b0 : decide (x28_1 < (t323.length : Int)) = false := decide_eq_false c24
      clear c24
      simp only [Option.some.injEq, Prod.mk.injEq] at H
      obtain ⟨rfl, rfl⟩ := H
      go_wp2
      go_ret2
      exact ⟨_, by first | rfl | (simp [errW_none, errW_some] <;> rfl) | (simp [*, errW_none, errW_some] <;> rfl), by (with_reducible repeat (first | apply Kd.R_alloc | apply Kd.R_drewN | apply Kd.R_drew)); exact Kd.R_mono HO_7.out (fun _ hk => trivial), (zb w)⟩
 ·rw [if_neg c4] at H
  have c4b0 : (t318 == 0) = false := beq_eq_false_iff_ne.mpr c4
  have c4b1 : (t318 != 0) = true := bne_iff_ne.mpr c4
  simp only [Option.some.injEq, Prod.mk.injEq] at H
  obtain ⟨rfl, rfl⟩ := H
  go_enter Tryz.func4, Tryz.ntmps4
  go_wp2_with (first | ((with_reducible refine gD 2 rfl ?_); refine bx w 2 #[.string a0_0, .string a0_1, .int .i64 a0_2, .slice A0_3 l0_3.length c0_3] 24 ?_; intro gb317 hg w30 hb BK317 GW317 GE317; clear HB; intro HB; clear hb hg; obtain ⟨hcz31_0, hcz31_1, hcz31_2, hcz31_3, hfz31_0, hfz31_1, hfz31_2, hfz31_3⟩ := cz4 BK317) | ((with_reducible refine gC 6 rfl ?_); refine gl_ 11 Tryz.func6 #[.agg #[.string a0_0, .string a0_1, .int .i64 a0_2, .slice A0_3 l0_3.length c0_3]] ?_; (with_reducible refine (interchangeref10_CheckAdvice.calls k a0_0 a0_1 a0_2 _ _ l0_3 t318 _ (zc HR0_3) HC0_3.out A3.out).mono ?_); rintro e w32 ⟨rfl, hb⟩; refine ⟨_, rfl, ?_⟩; replace BK317 := bb BK317 hb; replace HB := hs w hb; (try clear hb)))
  go_ret2
  exact ⟨_, by first | rfl | (simp [errW_none, errW_some] <;> rfl) | (simp [*, errW_none, errW_some] <;> rfl), by first | exact Kd.R_nil _ _ _ _ _ | exact Kd.N_nil _ _ _ _ _ | exact Kd.V_nil _ _ _ _ _ | exact Kd.Q_nil _ _ _ _ _ | exact Kd.S_nil _ _ _ _ _, (zb w)⟩

/-! ### strings_Trim: function 43 -/
-- STUB rounds=0 making=1
def strings_Trim.f (a0 : ByteArray) (a1 : ByteArray) : Option (ByteArray) := if a0.size ≤ 9223372036854775807 ∧ a1.size < 4294967281 ∧ (a1.data.toList.all fun b => decide (b.toNat < 128)) = true then some ⟨(Lib.trimS a0.data.toList a1.data.toList).toArray⟩ else none
theorem strings_Trim.calls (a0 : ByteArray) (a1 : ByteArray) (r : ByteArray) (w : World) (h : strings_Trim.f a0 a1 = some r) :
  Calls Tryz.prog 43 #[.string a0, .string a1] w fun e w' => e = .returned (.string r) ∧ Below w.heap.size w w' := by
 unfold strings_Trim.f at h
 split at h
 ·rename_i hc
  injection h with h
  subst h
  exact Any.strings_Trim_laid Tryz.l160 (by kernel_rfl) a0 a1 w hc.1 hc.2.1 (fun j b hb => by
   have h1 := List.all_eq_true.1 hc.2.2 b (List.mem_of_getElem? hb)
   simpa using h1)
 ·cases h

/-! ### kit_IsName: function 23 -/
def kit_IsName.f (a0 : ByteArray) : Option (Bool) := if (a0.size : Int) < 1 then (some false) else (if (a0.size : Int) > 40 then (some false) else (if 0 < (a0.size : Int) then (if (bt a0 0) < 97 then (some false) else (if (bt a0 0) > 122 then (some false) else ((strings_Trim.f a0 (⟨#[97, 98, 99, 100, 101, 102, 103, 104, 105, 106, 107, 108, 109, 110, 111, 112, 113, 114, 115, 116, 117, 118, 119, 120, 121, 122, 48, 49, 50, 51, 52, 53, 54, 55, 56, 57, 45]⟩ : ByteArray)).bind fun t330 => (some (t330.toList == ([] : List UInt8)))))) else (none)))
set_option maxHeartbeats 8000000 in
set_option maxRecDepth 100000 in
theorem kit_IsName.calls (a0 : ByteArray) (r : Bool) (w : World) (h : kit_IsName.f a0 = some r) :
  Calls Tryz.prog 23 #[.string a0] w fun e w' => e = .returned (.bool r) ∧ Below w.heap.size w w' := by
 have HB := Aside0.mk (Below.refl w.heap.size w)
 have H := h
 unfold kit_IsName.f at H
 clear h
 by_cases c2 : (a0.size : Int) < 1
 ·rw [if_pos c2] at H
  have c2b0 : decide ((a0.size : Int) < 1) = true := decide_eq_true c2
  have c2b1 : decide (a0.size < 1) = true := decide_eq_true (by omega)
  clear c2
  obtain rfl := Option.some.inj H
  go_enter Tryz.func23, Tryz.ntmps23
  go_wp2
  go_ret
  exact ⟨by first | rfl | (simp [errW_none, errW_some] <;> rfl) | (simp [*, errW_none, errW_some] <;> rfl), (zb w)⟩
 ·rw [if_neg c2] at H
  have c2b0 : decide ((a0.size : Int) < 1) = false := decide_eq_false c2
  have c2b1 : decide (a0.size < 1) = false := decide_eq_false (by omega)
  clear c2
  by_cases c3 : (a0.size : Int) > 40
  ·rw [if_pos c3] at H
   have c3b0 : decide (40 < (a0.size : Int)) = true := decide_eq_true c3
   have c3b1 : decide (40 < a0.size) = true := decide_eq_true (by omega)
   clear c3
   obtain rfl := Option.some.inj H
   go_enter Tryz.func23, Tryz.ntmps23
   go_wp2
   go_ret
   exact ⟨by first | rfl | (simp [errW_none, errW_some] <;> rfl) | (simp [*, errW_none, errW_some] <;> rfl), (zb w)⟩
  ·rw [if_neg c3] at H
   have c3b0 : decide (40 < (a0.size : Int)) = false := decide_eq_false c3
   have c3b1 : decide (40 < a0.size) = false := decide_eq_false (by omega)
   clear c3
   by_cases c4 : 0 < (a0.size : Int)
   ·rw [if_pos c4] at H
    have c4b0 : decide (0 < (a0.size : Int)) = true := decide_eq_true c4
    have c4b1 : decide (0 < a0.size) = true := decide_eq_true (by omega)
    clear c4
    by_cases c6 : (bt a0 0) < 97
    ·rw [if_pos c6] at H
     have c6b0 : decide ((bt a0 0) < 97) = true := decide_eq_true c6
     clear c6
     obtain rfl := Option.some.inj H
     have p5 : 0 ≤ (0 : Int) := (by omega)
     have q5 : 0 < a0.size := (by have : (0 : Int) < (a0.size : Int) := of_decide_eq_true (by assumption); omega)
     have hx5 : ∀ h : 0 < a0.size, ((a0[0]'h).toNat : Int) = bt a0 0 := bt_at a0 0
     clear p5
     have qi5 : (0 < (a0.size : Int)) = True := eq_true (of_decide_eq_true (by assumption))
     replace q5 := eq_true q5
     go_enter Tryz.func23, Tryz.ntmps23
     go_wp2
     go_ret
     exact ⟨by first | rfl | (simp [errW_none, errW_some] <;> rfl) | (simp [*, errW_none, errW_some] <;> rfl), (zb w)⟩
    ·rw [if_neg c6] at H
     have c6b0 : decide ((bt a0 0) < 97) = false := decide_eq_false c6
     clear c6
     by_cases c8 : (bt a0 0) > 122
     ·rw [if_pos c8] at H
      have c8b0 : decide (122 < (bt a0 0)) = true := decide_eq_true c8
      clear c8
      obtain rfl := Option.some.inj H
      have p5 : 0 ≤ (0 : Int) := (by omega)
      have q5 : 0 < a0.size := (by have : (0 : Int) < (a0.size : Int) := of_decide_eq_true (by assumption); omega)
      have hx5 : ∀ h : 0 < a0.size, ((a0[0]'h).toNat : Int) = bt a0 0 := bt_at a0 0
      clear p5
      have qi5 : (0 < (a0.size : Int)) = True := eq_true (of_decide_eq_true (by assumption))
      replace q5 := eq_true q5
      have p7 : 0 ≤ (0 : Int) := (by omega)
      have q7 : 0 < a0.size := (by have : (0 : Int) < (a0.size : Int) := of_decide_eq_true (by assumption); omega)
      have hx7 : ∀ h : 0 < a0.size, ((a0[0]'h).toNat : Int) = bt a0 0 := bt_at a0 0
      clear p7
      have qi7 : (0 < (a0.size : Int)) = True := eq_true (of_decide_eq_true (by assumption))
      replace q7 := eq_true q7
      go_enter Tryz.func23, Tryz.ntmps23
      go_wp2
      go_ret
      exact ⟨by first | rfl | (simp [errW_none, errW_some] <;> rfl) | (simp [*, errW_none, errW_some] <;> rfl), (zb w)⟩
     ·rw [if_neg c8] at H
      have c8b0 : decide (122 < (bt a0 0)) = false := decide_eq_false c8
      clear c8
      replace H := Option.bind_eq_some_iff.mp H
      obtain ⟨t330, A90, H⟩ := H
      try dsimp only at H
      have A9 := Aside0.mk A90
      clear A90
      obtain rfl := Option.some.inj H
      have p5 : 0 ≤ (0 : Int) := (by omega)
      have q5 : 0 < a0.size := (by have : (0 : Int) < (a0.size : Int) := of_decide_eq_true (by assumption); omega)
      have hx5 : ∀ h : 0 < a0.size, ((a0[0]'h).toNat : Int) = bt a0 0 := bt_at a0 0
      clear p5
      have qi5 : (0 < (a0.size : Int)) = True := eq_true (of_decide_eq_true (by assumption))
      replace q5 := eq_true q5
      have p7 : 0 ≤ (0 : Int) := (by omega)
      have q7 : 0 < a0.size := (by have : (0 : Int) < (a0.size : Int) := of_decide_eq_true (by assumption); omega)
      have hx7 : ∀ h : 0 < a0.size, ((a0[0]'h).toNat : Int) = bt a0 0 := bt_at a0 0
      clear p7
      have qi7 : (0 < (a0.size : Int)) = True := eq_true (of_decide_eq_true (by assumption))
      replace q7 := eq_true q7
      go_enter Tryz.func23, Tryz.ntmps23
      go_wp2_with (first | ((with_reducible refine gC 43 rfl ?_); refine gl_ 22 Tryz.func43 #[.string a0, .string (⟨#[97, 98, 99, 100, 101, 102, 103, 104, 105, 106, 107, 108, 109, 110, 111, 112, 113, 114, 115, 116, 117, 118, 119, 120, 121, 122, 48, 49, 50, 51, 52, 53, 54, 55, 56, 57, 45]⟩ : ByteArray)] ?_; (with_reducible refine (strings_Trim.calls a0 (⟨#[97, 98, 99, 100, 101, 102, 103, 104, 105, 106, 107, 108, 109, 110, 111, 112, 113, 114, 115, 116, 117, 118, 119, 120, 121, 122, 48, 49, 50, 51, 52, 53, 54, 55, 56, 57, 45]⟩ : ByteArray) t330 _ A9.out).mono ?_); rintro e w10 ⟨rfl, hb⟩; refine ⟨_, rfl, ?_⟩; replace HB := hs w hb; (try clear hb)))
      go_ret
      exact ⟨by first | rfl | (simp [errW_none, errW_some] <;> rfl) | (simp [*, errW_none, errW_some] <;> rfl), (zb w)⟩
   ·rw [if_neg c4] at H
    exact absurd H (by simp)

/-! ### kit_Outside: function 44 -/
def kit_Outside.f (a0 : Int) (a1 : Int) (a2 : Int) : Option (Bool) := if a0 < a1 then (some true) else (some (decide (a0 > a2)))
set_option maxHeartbeats 8000000 in
set_option maxRecDepth 100000 in
theorem kit_Outside.calls (a0 : Int) (a1 : Int) (a2 : Int) (r : Bool) (w : World) (h : kit_Outside.f a0 a1 a2 = some r) :
  Calls Tryz.prog 44 #[.int .i64 a0, .int .i64 a1, .int .i64 a2] w fun e w' => e = .returned (.bool r) ∧ Drawn0 w w' := by
 have H := h
 unfold kit_Outside.f at H
 clear h
 by_cases c4 : a0 < a1
 ·rw [if_pos c4] at H
  have c4b0 : decide (a0 < a1) = true := decide_eq_true c4
  clear c4
  obtain rfl := Option.some.inj H
  go_enter Tryz.func44, Tryz.ntmps44
  go_wp2
  go_ret
  exact ⟨ar, dr⟩
 ·rw [if_neg c4] at H
  have c4b0 : decide (a0 < a1) = false := decide_eq_false c4
  clear c4
  obtain rfl := Option.some.inj H
  go_enter Tryz.func44, Tryz.ntmps44
  go_wp2
  go_ret
  exact ⟨ar, dr⟩

/-! ### kit_IsDay: function 24 -/
def kit_IsDay.f (a0 : Int) : Option (Bool) := (kit_Outside.f a0 1 3652059).bind fun t331 => (some (!t331))
set_option maxHeartbeats 8000000 in
set_option maxRecDepth 100000 in
theorem kit_IsDay.calls (a0 : Int) (r : Bool) (w : World) (h : kit_IsDay.f a0 = some r) :
  Calls Tryz.prog 24 #[.int .i64 a0] w fun e w' => e = .returned (.bool r) ∧ Drawn0 w w' := by
 have H := h
 unfold kit_IsDay.f at H
 clear h
 replace H := Option.bind_eq_some_iff.mp H
 obtain ⟨t331, A20, H⟩ := H
 try dsimp only at H
 have A2 := Aside0.mk A20
 clear A20
 obtain rfl := Option.some.inj H
 go_enter Tryz.func24, Tryz.ntmps24
 go_wp2_with (first | ((with_reducible refine gC 44 rfl ?_); refine gl_ 4 Tryz.func44 #[.int .i64 a0, .int .i64 1, .int .i64 3652059] ?_; (with_reducible refine (kit_Outside.calls a0 1 3652059 t331 _ A2.out).mono ?_); rintro e w' ⟨rfl, ⟨nd, rfl⟩⟩; refine ⟨_, rfl, ?_⟩))
 go_ret
 exact ⟨ar, dr⟩

/-! ### amount_isKind: function 76 -/
def amount_isKind.f (a0 : Int) : Option (Bool) := (kit_Outside.f a0 1 5).bind fun t332 => (some (!t332))
set_option maxHeartbeats 8000000 in
set_option maxRecDepth 100000 in
theorem amount_isKind.calls (a0 : Int) (r : Bool) (w : World) (h : amount_isKind.f a0 = some r) :
  Calls Tryz.prog 76 #[.int .i64 a0] w fun e w' => e = .returned (.bool r) ∧ Drawn0 w w' := by
 have H := h
 unfold amount_isKind.f at H
 clear h
 replace H := Option.bind_eq_some_iff.mp H
 obtain ⟨t332, A20, H⟩ := H
 try dsimp only at H
 have A2 := Aside0.mk A20
 clear A20
 obtain rfl := Option.some.inj H
 go_enter Tryz.func76, Tryz.ntmps76
 go_wp2_with (first | ((with_reducible refine gC 44 rfl ?_); refine gl_ 4 Tryz.func44 #[.int .i64 a0, .int .i64 1, .int .i64 5] ?_; (with_reducible refine (kit_Outside.calls a0 1 5 t332 _ A2.out).mono ?_); rintro e w' ⟨rfl, ⟨nd, rfl⟩⟩; refine ⟨_, rfl, ?_⟩))
 go_ret
 exact ⟨ar, dr⟩

end Go.Proofs.YthgefhnolmloiaaGreatDoor.P3
