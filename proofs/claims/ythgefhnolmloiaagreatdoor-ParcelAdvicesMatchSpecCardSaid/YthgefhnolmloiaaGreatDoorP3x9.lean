-- Made by a program of this session out of the translation (wip/pp.py): functions, contracts.
import Derived.Test.YthgefhnolmloiaaGreatDoorP3x0
namespace Go.Proofs.YthgefhnolmloiaaGreatDoor.P3
open Go.RowKit Go.Proofs.YthgefhnolmloiaaGreatDoorW.PrintWords Go.Proofs.YthgefhnolmloiaaGreatDoorW.PrintLast Go.Proofs.YthgefhnolmloiaaGreatDoorW.PrintMore
attribute [local go_sem] max2_int min2_int max_two min_two max_three min_three max_four min_four   -- for this text's walks alone
set_option linter.unusedVariables false
set_option linter.unusedSimpArgs false

/-! ### interchangeref10_parcelOf: function 12 -/
def interchangeref10_parcelOf.l0 : Nat → ByteArray → List (S42) → Int → Int → Option (Int)
 | 0, _, _, _, _ => none
 | k + 1, x1, x7, x8, x9 => if x9 < x8 then (if 0 ≤ x9 then (if x9 < (x7.length : Int) then (if ((rd_T42 x7 x9).f0).toList = x1.toList then (some x9) else (interchangeref10_parcelOf.l0 k x1 x7 x8 (wrap64 (x9 + 1)))) else (none)) else (none)) else (some (-1))
def interchangeref10_parcelOf.f (k : Nat) (l0 : List (S42)) (a1 : ByteArray) : Option (Int) := interchangeref10_parcelOf.l0 k a1 l0 (l0.length : Int) 0
theorem interchangeref10_parcelOf.mono_l : ∀ k, (∀ y0 y1 y2 y3, LeO (interchangeref10_parcelOf.l0 k y0 y1 y2 y3) (interchangeref10_parcelOf.l0 (k + 1) y0 y1 y2 y3))
 | 0 => fun _ _ _ _ r h => by simp [interchangeref10_parcelOf.l0] at h
 | k + 1 => by
  have ih0 := interchangeref10_parcelOf.mono_l k
  ·intro y0 y1 y2 y3
   unfold interchangeref10_parcelOf.l0
   repeat' first | with_reducible first | exact ih0 _ _ _ _ | exact lr _ | exact ln _ | refine li ?_ ?_ | refine lb ?_ fun _ => ?_ | exact ih0 _ _ _ _ | exact ln _ | refine li ?_ ?_ | refine lb ?_ fun _ => ?_
theorem interchangeref10_parcelOf.mono : ∀ a0 a1 k, LeO (interchangeref10_parcelOf.f k a0 a1) (interchangeref10_parcelOf.f (k + 1) a0 a1) := by
 intro a0 a1 k
 have ih0 := interchangeref10_parcelOf.mono_l k
 unfold interchangeref10_parcelOf.f
 repeat' first | with_reducible first | exact ih0 _ _ _ _ | exact lr _ | exact ln _ | refine li ?_ ?_ | refine lb ?_ fun _ => ?_ | exact ih0 _ _ _ _ | exact ln _ | refine li ?_ ?_ | refine lb ?_ fun _ => ?_
set_option maxHeartbeats 8000000 in
set_option maxRecDepth 100000 in
theorem interchangeref10_parcelOf.calls (k : Nat) (A0 : Option Addr) (c0 : Nat) (l0 : List (S42)) (a1 : ByteArray) (r : Int) (w : World) (hr0 : Kd.C k42 w A0 l0.length l0) (hc0 : l0.length ≤ c0) (h : interchangeref10_parcelOf.f k l0 a1 = some r) :
  Calls Tryz.prog 12 #[.slice A0 l0.length c0, .string a1] w fun e w' => e = .returned (.int .i64 r) ∧ Below w.heap.size w w' := by
 have hu42 := Tryz.underlying42
 have HR0 := Aside0.mk hr0
 have HC0 := Aside0.mk hc0
 clear hr0 hc0
 have HB := Aside0.mk (Below.refl w.heap.size w)
 have H := h
 unfold interchangeref10_parcelOf.f at H
 clear h
 have H' := Aside0.mk H
 clear H
 go_enter Tryz.func12, Tryz.ntmps12
 go_wp2
 try simp only [sq]
 go_loopg [9] k (fun kq v9 w' => ∃ (x9_1 : Int), v9 = .int .i64 x9_1 ∧ Aside0 (interchangeref10_parcelOf.l0 kq a1 l0 (l0.length : Int) x9_1 = some r) ∧ Aside0 (kq ≤ k) ∧ Aside0 (Below w.heap.size w w'))
 case atStart => exact ⟨(0), ar, H', ⟨Nat.le_refl _⟩, ⟨(zb w)⟩⟩
 case round =>
  clear H'
  try clear c1
  try clear p2
  obtain ⟨x9_1, rfl, HA, HK1, HB⟩ := hrel
  cases gk with
  | zero => exact absurd HA.out (by simp [interchangeref10_parcelOf.l0])
  | succ k1 =>
   have H := HA.out
   clear HA
   simp only [interchangeref10_parcelOf.l0] at H
   by_cases c3 : x9_1 < (l0.length : Int)
   ·rw [if_pos c3] at H
    have c3b0 : decide (x9_1 < (l0.length : Int)) = true := decide_eq_true c3
    clear c3
    by_cases c4 : 0 ≤ x9_1
    ·rw [if_pos c4] at H
     have c4b0 : decide (0 ≤ x9_1) = true := decide_eq_true c4
     clear c4
     by_cases c5 : x9_1 < (l0.length : Int)
     ·rw [if_pos c5] at H
      have c5b0 : decide (x9_1 < (l0.length : Int)) = true := decide_eq_true c5
      clear c5
      by_cases c6 : ((rd_T42 l0 x9_1).f0).toList = a1.toList
      ·rw [if_pos c6] at H
       have c6b0 : (((rd_T42 l0 x9_1).f0).toList == a1.toList) = true := beq_iff_eq.mpr c6
       have c6b1 : (((rd_T42 l0 x9_1).f0).toList != a1.toList) = false := bne_eq_false_iff_eq.mpr c6
       clear c6
       obtain rfl := Option.some.inj H
       have p265 : 0 ≤ (x9_1 : Int) := of_decide_eq_true (by assumption)
       have q265 : x9_1 < (l0.length : Int) := of_decide_eq_true (by assumption)
       obtain ⟨ad265, A265_4, c265_4, e265, hx265_0, hx265_1, hx265_2, hx265_3, hx265_4, hl265_4, hi265_4⟩ := at_T42 HR0.out x9_1 p265 q265
       cases e265
       replace hx265_0 := hz HB hx265_0
       replace hx265_1 := hz HB hx265_1
       replace hx265_2 := hz HB hx265_2
       replace hx265_3 := hz HB hx265_3
       replace hx265_4 := hz HB hx265_4
       have HR265_4 := Aside0.mk hi265_4
       have HC265_4 := Aside0.mk hl265_4
       clear hi265_4 hl265_4
       replace p265 := eq_true p265
       replace q265 := eq_true q265
       go_wp2_with (first | ((with_reducible refine gD 6 rfl ?_); refine bx w 6 #[.string (⟨#[]⟩ : ByteArray), .string (⟨#[]⟩ : ByteArray), .int .i64 0, .int .i64 0, .slice none 0 0] 42 ?_; intro gb266 hg w7 hb BK266 GW266 GE266; clear HB; intro HB; clear hb hg; obtain ⟨hcz8_0, hcz8_1, hcz8_2, hcz8_3, hcz8_4, hfz8_0, hfz8_1, hfz8_2, hfz8_3, hfz8_4⟩ := cz5 BK266))
       go_ret
       exact ⟨by first | rfl | (simp [errW_none, errW_some] <;> rfl) | (simp [*, errW_none, errW_some] <;> rfl), (zb w)⟩
      ·rw [if_neg c6] at H
       have c6b0 : (((rd_T42 l0 x9_1).f0).toList == a1.toList) = false := beq_eq_false_iff_ne.mpr c6
       have c6b1 : (((rd_T42 l0 x9_1).f0).toList != a1.toList) = true := bne_iff_ne.mpr c6
       have H' := Aside0.mk H
       clear H
       have p265 : 0 ≤ (x9_1 : Int) := of_decide_eq_true (by assumption)
       have q265 : x9_1 < (l0.length : Int) := of_decide_eq_true (by assumption)
       obtain ⟨ad265, A265_4, c265_4, e265, hx265_0, hx265_1, hx265_2, hx265_3, hx265_4, hl265_4, hi265_4⟩ := at_T42 HR0.out x9_1 p265 q265
       cases e265
       replace hx265_0 := hz HB hx265_0
       replace hx265_1 := hz HB hx265_1
       replace hx265_2 := hz HB hx265_2
       replace hx265_3 := hz HB hx265_3
       replace hx265_4 := hz HB hx265_4
       have HR265_4 := Aside0.mk hi265_4
       have HC265_4 := Aside0.mk hl265_4
       clear hi265_4 hl265_4
       replace p265 := eq_true p265
       replace q265 := eq_true q265
       go_wp2_with (first | ((with_reducible refine gD 6 rfl ?_); refine bx w 6 #[.string (⟨#[]⟩ : ByteArray), .string (⟨#[]⟩ : ByteArray), .int .i64 0, .int .i64 0, .slice none 0 0] 42 ?_; intro gb266 hg w9 hb BK266 GW266 GE266; clear HB; intro HB; clear hb hg; obtain ⟨hcz10_0, hcz10_1, hcz10_2, hcz10_3, hcz10_4, hfz10_0, hfz10_1, hfz10_2, hfz10_3, hfz10_4⟩ := cz5 BK266))
       go_roundg k1
       case measure => have := HK1.out; omega
       case rel => exact ⟨(wrap64 (x9_1 + 1)), ar, H', ⟨by have := HK1.out; omega⟩, ⟨(zb w)⟩⟩
     ·rw [if_neg c5] at H
      exact absurd H (by simp)
    ·rw [if_neg c4] at H
     exact absurd H (by simp)
   ·rw [if_neg c3] at H
    have c3b0 : decide (x9_1 < (l0.length : Int)) = false := decide_eq_false c3
    clear c3
    obtain rfl := Option.some.inj H
    go_wp2
    go_ret
    exact ⟨by first | rfl | (simp [errW_none, errW_some] <;> rfl) | (simp [*, errW_none, errW_some] <;> rfl), (zb w)⟩

/-! ### interchangeref10_up: function 27 -/
def interchangeref10_up.l0 : Nat → List (S42) → Int → List Int → Option (List Int × Bool)
 | 0, _, _, _ => none
 | k + 1, x0, x1, x6 => if 0 ≤ x1 then (if x1 < (x0.length : Int) then (if ((rd_T42 x0 x1).f1).toList = ([] : List UInt8) then (some (x6, true)) else ((interchangeref10_parcelOf.f k x0 ((rd_T42 x0 x1).f1)).bind fun t272 => (if (x6.length : Int) > (x0.length : Int) then (some (([] : List Int), false)) else (if x6.length < 17592186044416 then (interchangeref10_up.l0 k x0 t272 (x6 ++ [t272])) else (none))))) else (none)) else (none)
def interchangeref10_up.f (k : Nat) (l0 : List (S42)) (a1 : Int) : Option (List Int × Bool) := interchangeref10_up.l0 k l0 a1 (([a1] : List Int))
theorem interchangeref10_up.mono_l : ∀ k, (∀ y0 y1 y2, LeO (interchangeref10_up.l0 k y0 y1 y2) (interchangeref10_up.l0 (k + 1) y0 y1 y2))
 | 0 => fun _ _ _ r h => by simp [interchangeref10_up.l0] at h
 | k + 1 => by
  have ih0 := interchangeref10_up.mono_l k
  ·intro y0 y1 y2
   unfold interchangeref10_up.l0
   repeat' first | with_reducible first | exact ih0 _ _ _ | exact interchangeref10_parcelOf.mono _ _ _ | exact lr _ | exact ln _ | refine li ?_ ?_ | refine lb ?_ fun _ => ?_ | exact ih0 _ _ _ | exact interchangeref10_parcelOf.mono _ _ _ | exact ln _ | refine li ?_ ?_ | refine lb ?_ fun _ => ?_
theorem interchangeref10_up.mono : ∀ a0 a1 k, LeO (interchangeref10_up.f k a0 a1) (interchangeref10_up.f (k + 1) a0 a1) := by
 intro a0 a1 k
 have ih0 := interchangeref10_up.mono_l k
 unfold interchangeref10_up.f
 repeat' first | with_reducible first | exact ih0 _ _ _ | exact interchangeref10_parcelOf.mono _ _ _ | exact lr _ | exact ln _ | refine li ?_ ?_ | refine lb ?_ fun _ => ?_ | exact ih0 _ _ _ | exact interchangeref10_parcelOf.mono _ _ _ | exact ln _ | refine li ?_ ?_ | refine lb ?_ fun _ => ?_
set_option maxHeartbeats 8000000 in
set_option maxRecDepth 100000 in
theorem interchangeref10_up.calls (k : Nat) (A0 : Option Addr) (c0 : Nat) (l0 : List (S42)) (a1 : Int) (r1 : List Int) (r2 : Bool) (w : World) (hr0 : Kd.C k42 w A0 l0.length l0) (hc0 : l0.length ≤ c0) (h : interchangeref10_up.f k l0 a1 = some (r1, r2)) :
  Calls Tryz.prog 27 #[.slice A0 l0.length c0, .int .i64 a1] w fun e w' => ∃ v0_ : Value, e = .returned (.tuple #[v0_, .bool r2]) ∧ Kd.R (Kd.int .i64) 3 w' w.heap.size (fun _ => True) v0_ r1 ∧ Below w.heap.size w w' := by
 have HR0 := Aside0.mk hr0
 have HC0 := Aside0.mk hc0
 clear hr0 hc0
 have HB := Aside0.mk (Below.refl w.heap.size w)
 have H := h
 unfold interchangeref10_up.f at H
 clear h
 obtain ⟨y267, hy267⟩ : ∃ y_ : List Int, y_ = (([a1] : List Int)) := ⟨_, rfl⟩
 replace H : (interchangeref10_up.l0 k l0 a1 y267) = some (r1, r2) := by first | (rw [hy267]; with_reducible exact H) | (have H2_ := (Option.bind_some _ _).symm.trans H; rw [hy267]; with_reducible exact H2_) | (have H2_ := (Option.bind_some _ _).symm.trans H; with_reducible exact H2_) | with_reducible exact H | (rw [hy267]; exact H) | exact H
 have Ny267 := Aside0.mk hy267
 clear hy267
 have H' := Aside0.mk H
 clear H
 go_enter Tryz.func27, Tryz.ntmps27
 go_wp2_with (first | ((with_reducible refine gD 8 rfl ?_); refine Kd.R_lit (Kd.int .i64) _ 3 ?hg (N := 8) ?hd (xs := ([a1] : List Int)) (inner := [.int .i64 a1]) (ok := fun _ => True) (okp := fun _ => True) ?hr ?hp (fun _ hk => hk) trivial (Below.refl _ _) (Nat.le_refl _) (by simp) ?_; (case hd => rfl); (case hg => rfl); (case hr => first | (go_simp; done) | (go_simp; rfl)); (case hp => exact (Reps.one (show Kd.M (Kd.int .i64) _ _ _ a1 [.int .i64 a1] from rfl) (Reps.none _ _))); intro v268 w3 ho4 hb hg_ hnew_; clear hg_ hnew_; (first | rw [← Ny267.out] at ho4 | (simp only [Int.reduceToNat] at ho4; rw [← Ny267.out] at ho4)); have HO269 := Aside0.mk (Kd.R_lower ho4 (below_size (zb w))); replace HB := hs w hb; clear hb ho4))
 try simp only [sq]
 go_loopg [1, 6] k (fun kq v1 v6 w' => ∃ (x1_1 : Int) (x6_1 : List Int), v1 = .int .i64 x1_1 ∧ Aside0 (interchangeref10_up.l0 kq l0 x1_1 x6_1 = some (r1, r2)) ∧ Aside0 (kq ≤ k) ∧ Aside0 (Kd.R (Kd.int .i64) 3 w' w.heap.size (fun _ => True) v6 x6_1) ∧ Aside0 (Below w.heap.size w w'))
 case atStart => exact ⟨(a1), (y267), ar, H', ⟨Nat.le_refl _⟩, ⟨zo HO269⟩, ⟨(zb w)⟩⟩
 case round =>
  clear H'
  try clear c2
  try clear p2
  obtain ⟨x1_1, x6_1, rfl, HA, HK1, HO_6, HB⟩ := hrel
  cases gk with
  | zero => exact absurd HA.out (by simp [interchangeref10_up.l0])
  | succ k1 =>
   have H := HA.out
   clear HA
   simp only [interchangeref10_up.l0] at H
   by_cases c5 : 0 ≤ x1_1
   ·rw [if_pos c5] at H
    have c5b0 : decide (0 ≤ x1_1) = true := decide_eq_true c5
    clear c5
    by_cases c6 : x1_1 < (l0.length : Int)
    ·rw [if_pos c6] at H
     have c6b0 : decide (x1_1 < (l0.length : Int)) = true := decide_eq_true c6
     clear c6
     by_cases c7 : ((rd_T42 l0 x1_1).f1).toList = ([] : List UInt8)
     ·rw [if_pos c7] at H
      have c7b0 : (((rd_T42 l0 x1_1).f1).toList == ([] : List UInt8)) = true := beq_iff_eq.mpr c7
      have c7b1 : (((rd_T42 l0 x1_1).f1).toList != ([] : List UInt8)) = false := bne_eq_false_iff_eq.mpr c7
      clear c7
      simp only [Option.some.injEq, Prod.mk.injEq] at H
      obtain ⟨rfl, rfl⟩ := H
      have p270 : 0 ≤ (x1_1 : Int) := of_decide_eq_true (by assumption)
      have q270 : x1_1 < (l0.length : Int) := of_decide_eq_true (by assumption)
      obtain ⟨ad270, A270_4, c270_4, e270, hx270_0, hx270_1, hx270_2, hx270_3, hx270_4, hl270_4, hi270_4⟩ := at_T42 HR0.out x1_1 p270 q270
      cases e270
      replace hx270_0 := hz HB hx270_0
      replace hx270_1 := hz HB hx270_1
      replace hx270_2 := hz HB hx270_2
      replace hx270_3 := hz HB hx270_3
      replace hx270_4 := hz HB hx270_4
      have HR270_4 := Aside0.mk hi270_4
      have HC270_4 := Aside0.mk hl270_4
      clear hi270_4 hl270_4
      replace p270 := eq_true p270
      replace q270 := eq_true q270
      go_wp2
      go_ret2
      exact ⟨_, by first | rfl | (simp [errW_none, errW_some] <;> rfl) | (simp [*, errW_none, errW_some] <;> rfl), by (with_reducible repeat (first | apply Kd.R_alloc | apply Kd.R_drewN | apply Kd.R_drew)); exact HO_6.out, (zb w)⟩
     ·rw [if_neg c7] at H
      have c7b0 : (((rd_T42 l0 x1_1).f1).toList == ([] : List UInt8)) = false := beq_eq_false_iff_ne.mpr c7
      have c7b1 : (((rd_T42 l0 x1_1).f1).toList != ([] : List UInt8)) = true := bne_iff_ne.mpr c7
      replace H := Option.bind_eq_some_iff.mp H
      obtain ⟨t272, A80, H⟩ := H
      try dsimp only at H
      have A8 := Aside0.mk A80
      clear A80
      by_cases c9 : (x6_1.length : Int) > (l0.length : Int)
      ·rw [if_pos c9] at H
       have c9b0 : decide ((l0.length : Int) < (x6_1.length : Int)) = true := decide_eq_true c9
       have c9b1 : decide (l0.length < x6_1.length) = true := decide_eq_true (Int.ofNat_lt.mp c9)
       clear c9
       simp only [Option.some.injEq, Prod.mk.injEq] at H
       obtain ⟨rfl, rfl⟩ := H
       have p270 : 0 ≤ (x1_1 : Int) := of_decide_eq_true (by assumption)
       have q270 : x1_1 < (l0.length : Int) := of_decide_eq_true (by assumption)
       obtain ⟨ad270, A270_4, c270_4, e270, hx270_0, hx270_1, hx270_2, hx270_3, hx270_4, hl270_4, hi270_4⟩ := at_T42 HR0.out x1_1 p270 q270
       cases e270
       replace hx270_0 := hz HB hx270_0
       replace hx270_1 := hz HB hx270_1
       replace hx270_2 := hz HB hx270_2
       replace hx270_3 := hz HB hx270_3
       replace hx270_4 := hz HB hx270_4
       have HR270_4 := Aside0.mk hi270_4
       have HC270_4 := Aside0.mk hl270_4
       clear hi270_4 hl270_4
       replace p270 := eq_true p270
       replace q270 := eq_true q270
       have p271 : 0 ≤ (x1_1 : Int) := of_decide_eq_true (by assumption)
       have q271 : x1_1 < (l0.length : Int) := of_decide_eq_true (by assumption)
       obtain ⟨ad271, A271_4, c271_4, e271, hx271_0, hx271_1, hx271_2, hx271_3, hx271_4, hl271_4, hi271_4⟩ := at_T42 HR0.out x1_1 p271 q271
       obtain rfl : ad270 = ad271 := (by injection e271)
       replace hx271_0 := hz HB hx271_0
       replace hx271_1 := hz HB hx271_1
       replace hx271_2 := hz HB hx271_2
       replace hx271_3 := hz HB hx271_3
       replace hx271_4 := hz HB hx271_4
       have HR271_4 := Aside0.mk hi271_4
       have HC271_4 := Aside0.mk hl271_4
       clear hi271_4 hl271_4
       replace p271 := eq_true p271
       replace q271 := eq_true q271
       have ea_ := Option.some.inj (hx270_4.symm.trans hx271_4)
       injection ea_ with ea_ en_ ec_
       subst ea_
       subst ec_
       clear en_
       go_wp2_with (first | ((with_reducible refine gC 12 rfl ?_); refine gl_ 21 Tryz.func12 #[.slice (some ad270) l0.length c0, .string ((rd_T42 l0 x1_1).f1)] ?_; (with_reducible refine (interchangeref10_parcelOf.calls k1 _ _ l0 ((rd_T42 l0 x1_1).f1) t272 _ (zc HR0) HC0.out A8.out).mono ?_); rintro e w10 ⟨rfl, hb⟩; refine ⟨_, rfl, ?_⟩; replace HO_6 := rb HO_6 hb; replace HB := hs w hb; (try clear hb); obtain ⟨Ao11, co11, eo11⟩ := Kd.R_slice HO_6.out; subst eo11))
       go_ret2
       exact ⟨_, by first | rfl | (simp [errW_none, errW_some] <;> rfl) | (simp [*, errW_none, errW_some] <;> rfl), by first | exact Kd.R_nil _ _ _ _ _ | exact Kd.N_nil _ _ _ _ _ | exact Kd.V_nil _ _ _ _ _ | exact Kd.Q_nil _ _ _ _ _ | exact Kd.S_nil _ _ _ _ _, (zb w)⟩
      ·rw [if_neg c9] at H
       have c9b0 : decide ((l0.length : Int) < (x6_1.length : Int)) = false := decide_eq_false c9
       have c9b1 : decide (l0.length < x6_1.length) = false := decide_eq_false (fun h => c9 (Int.ofNat_lt.mpr h))
       clear c9
       by_cases c12 : x6_1.length < 17592186044416
       ·rw [if_pos c12] at H
        have LMc12 := Aside0.mk c12
        clear c12
        obtain ⟨y273, hy273⟩ : ∃ y_ : List Int, y_ = (x6_1 ++ [t272]) := ⟨_, rfl⟩
        replace H : (interchangeref10_up.l0 k1 l0 t272 y273) = some (r1, r2) := by first | (rw [hy273]; with_reducible exact H) | (have H2_ := (Option.bind_some _ _).symm.trans H; rw [hy273]; with_reducible exact H2_) | (have H2_ := (Option.bind_some _ _).symm.trans H; with_reducible exact H2_) | with_reducible exact H | (rw [hy273]; exact H) | exact H
        have Ny273 := Aside0.mk hy273
        clear hy273
        have H' := Aside0.mk H
        clear H
        have p270 : 0 ≤ (x1_1 : Int) := of_decide_eq_true (by assumption)
        have q270 : x1_1 < (l0.length : Int) := of_decide_eq_true (by assumption)
        obtain ⟨ad270, A270_4, c270_4, e270, hx270_0, hx270_1, hx270_2, hx270_3, hx270_4, hl270_4, hi270_4⟩ := at_T42 HR0.out x1_1 p270 q270
        cases e270
        replace hx270_0 := hz HB hx270_0
        replace hx270_1 := hz HB hx270_1
        replace hx270_2 := hz HB hx270_2
        replace hx270_3 := hz HB hx270_3
        replace hx270_4 := hz HB hx270_4
        have HR270_4 := Aside0.mk hi270_4
        have HC270_4 := Aside0.mk hl270_4
        clear hi270_4 hl270_4
        replace p270 := eq_true p270
        replace q270 := eq_true q270
        have p271 : 0 ≤ (x1_1 : Int) := of_decide_eq_true (by assumption)
        have q271 : x1_1 < (l0.length : Int) := of_decide_eq_true (by assumption)
        obtain ⟨ad271, A271_4, c271_4, e271, hx271_0, hx271_1, hx271_2, hx271_3, hx271_4, hl271_4, hi271_4⟩ := at_T42 HR0.out x1_1 p271 q271
        obtain rfl : ad270 = ad271 := (by injection e271)
        replace hx271_0 := hz HB hx271_0
        replace hx271_1 := hz HB hx271_1
        replace hx271_2 := hz HB hx271_2
        replace hx271_3 := hz HB hx271_3
        replace hx271_4 := hz HB hx271_4
        have HR271_4 := Aside0.mk hi271_4
        have HC271_4 := Aside0.mk hl271_4
        clear hi271_4 hl271_4
        replace p271 := eq_true p271
        replace q271 := eq_true q271
        have ea_ := Option.some.inj (hx270_4.symm.trans hx271_4)
        injection ea_ with ea_ en_ ec_
        subst ea_
        subst ec_
        clear en_
        go_wp2_with (first | ((with_reducible refine gC 12 rfl ?_); refine gl_ 21 Tryz.func12 #[.slice (some ad270) l0.length c0, .string ((rd_T42 l0 x1_1).f1)] ?_; (with_reducible refine (interchangeref10_parcelOf.calls k1 _ _ l0 ((rd_T42 l0 x1_1).f1) t272 _ (zc HR0) HC0.out A8.out).mono ?_); rintro e w13 ⟨rfl, hb⟩; refine ⟨_, rfl, ?_⟩; replace HO_6 := rb HO_6 hb; replace HB := hs w hb; (try clear hb); obtain ⟨Ao14, co14, eo14⟩ := Kd.R_slice HO_6.out; subst eo14) | ((with_reducible refine gate_builtin (b := .append) (xs := #[.tmp 27, .tmp 29]) rfl ?_); at_builtin; refine Kd.R_append (Kd.int .i64) (w0 := w) w.heap.size rfl (.tmp 27) (.tmp 29) 35 3 (.int .i64 0) 8 rfl Tryz.underlying35 info3 rfl (by decide) (by omega) (.slice Ao14 x6_1.length co14) x6_1 t272 [.int .i64 t272] (fun _ => True) (fun _ => False) rfl rfl ?aP (fun _ hk => hk.elim) ?aF ?aO ?aB ?aS ?aL ?_; (case aP => exact rfl); (case aB => exact (zb w)); (case aF => exact (fun _ _ => trivial)); (case aO => exact (zo HO_6)); (case aS => exact (below_size (zb w))); (case aL => have := LMc12.out; omega); intro v274 w15 ho hb hg hat; rw [← Ny273.out] at ho; replace HB := Aside0.mk (hb); have HO275 := Aside0.mk (ho); clear HO_6; clear ho hb hg hat))
        go_roundg k1
        case measure => have := HK1.out; omega
        case rel => exact ⟨(t272), (y273), ar, H', ⟨by have := HK1.out; omega⟩, ⟨zo HO275⟩, ⟨(zb w)⟩⟩
       ·rw [if_neg c12] at H
        exact absurd H (by simp)
    ·rw [if_neg c6] at H
     exact absurd H (by simp)
   ·rw [if_neg c5] at H
    exact absurd H (by simp)

/-! ### interchangeref10_loops: function 42 -/
def interchangeref10_loops.l0 : Nat → List (S42) → Int → Int → Int → Int → Option (Bool)
 | 0, _, _, _, _, _ => none
 | k + 1, x0, x1, x5, x8, x9 => if x9 < x8 then (if 0 ≤ x5 then (if x5 < (x0.length : Int) then (if ((rd_T42 x0 x5).f1).toList = ([] : List UInt8) then (some false) else ((interchangeref10_parcelOf.f k x0 ((rd_T42 x0 x5).f1)).bind fun t278 => (if t278 = x1 then (some true) else (interchangeref10_loops.l0 k x0 x1 t278 x8 (wrap64 (x9 + 1)))))) else (none)) else (none)) else (some false)
def interchangeref10_loops.f (k : Nat) (l0 : List (S42)) (a1 : Int) : Option (Bool) := interchangeref10_loops.l0 k l0 a1 a1 (l0.length : Int) 0
theorem interchangeref10_loops.mono_l : ∀ k, (∀ y0 y1 y2 y3 y4, LeO (interchangeref10_loops.l0 k y0 y1 y2 y3 y4) (interchangeref10_loops.l0 (k + 1) y0 y1 y2 y3 y4))
 | 0 => fun _ _ _ _ _ r h => by simp [interchangeref10_loops.l0] at h
 | k + 1 => by
  have ih0 := interchangeref10_loops.mono_l k
  ·intro y0 y1 y2 y3 y4
   unfold interchangeref10_loops.l0
   repeat' first | with_reducible first | exact ih0 _ _ _ _ _ | exact interchangeref10_parcelOf.mono _ _ _ | exact lr _ | exact ln _ | refine li ?_ ?_ | refine lb ?_ fun _ => ?_ | exact ih0 _ _ _ _ _ | exact interchangeref10_parcelOf.mono _ _ _ | exact ln _ | refine li ?_ ?_ | refine lb ?_ fun _ => ?_
theorem interchangeref10_loops.mono : ∀ a0 a1 k, LeO (interchangeref10_loops.f k a0 a1) (interchangeref10_loops.f (k + 1) a0 a1) := by
 intro a0 a1 k
 have ih0 := interchangeref10_loops.mono_l k
 unfold interchangeref10_loops.f
 repeat' first | with_reducible first | exact ih0 _ _ _ _ _ | exact interchangeref10_parcelOf.mono _ _ _ | exact lr _ | exact ln _ | refine li ?_ ?_ | refine lb ?_ fun _ => ?_ | exact ih0 _ _ _ _ _ | exact interchangeref10_parcelOf.mono _ _ _ | exact ln _ | refine li ?_ ?_ | refine lb ?_ fun _ => ?_
set_option maxHeartbeats 8000000 in
set_option maxRecDepth 100000 in
theorem interchangeref10_loops.calls (k : Nat) (A0 : Option Addr) (c0 : Nat) (l0 : List (S42)) (a1 : Int) (r : Bool) (w : World) (hr0 : Kd.C k42 w A0 l0.length l0) (hc0 : l0.length ≤ c0) (h : interchangeref10_loops.f k l0 a1 = some r) :
  Calls Tryz.prog 42 #[.slice A0 l0.length c0, .int .i64 a1] w fun e w' => e = .returned (.bool r) ∧ Below w.heap.size w w' := by
 have HR0 := Aside0.mk hr0
 have HC0 := Aside0.mk hc0
 clear hr0 hc0
 have HB := Aside0.mk (Below.refl w.heap.size w)
 have H := h
 unfold interchangeref10_loops.f at H
 clear h
 have H' := Aside0.mk H
 clear H
 go_enter Tryz.func42, Tryz.ntmps42
 go_wp2
 try simp only [sq]
 go_loopg [5, 9] k (fun kq v5 v9 w' => ∃ (x5_1 : Int) (x9_1 : Int), v5 = .int .i64 x5_1 ∧ v9 = .int .i64 x9_1 ∧ Aside0 (interchangeref10_loops.l0 kq l0 a1 x5_1 (l0.length : Int) x9_1 = some r) ∧ Aside0 (kq ≤ k) ∧ Aside0 (Below w.heap.size w w'))
 case atStart => exact ⟨(a1), (0), ar, ar, H', ⟨Nat.le_refl _⟩, ⟨(zb w)⟩⟩
 case round =>
  clear H'
  try clear p2
  obtain ⟨x5_1, x9_1, rfl, rfl, HA, HK1, HB⟩ := hrel
  cases gk with
  | zero => exact absurd HA.out (by simp [interchangeref10_loops.l0])
  | succ k1 =>
   have H := HA.out
   clear HA
   simp only [interchangeref10_loops.l0] at H
   by_cases c3 : x9_1 < (l0.length : Int)
   ·rw [if_pos c3] at H
    have c3b0 : decide (x9_1 < (l0.length : Int)) = true := decide_eq_true c3
    clear c3
    by_cases c4 : 0 ≤ x5_1
    ·rw [if_pos c4] at H
     have c4b0 : decide (0 ≤ x5_1) = true := decide_eq_true c4
     clear c4
     by_cases c5 : x5_1 < (l0.length : Int)
     ·rw [if_pos c5] at H
      have c5b0 : decide (x5_1 < (l0.length : Int)) = true := decide_eq_true c5
      clear c5
      by_cases c6 : ((rd_T42 l0 x5_1).f1).toList = ([] : List UInt8)
      ·rw [if_pos c6] at H
       have c6b0 : (((rd_T42 l0 x5_1).f1).toList == ([] : List UInt8)) = true := beq_iff_eq.mpr c6
       have c6b1 : (((rd_T42 l0 x5_1).f1).toList != ([] : List UInt8)) = false := bne_eq_false_iff_eq.mpr c6
       clear c6
       obtain rfl := Option.some.inj H
       have p276 : 0 ≤ (x5_1 : Int) := of_decide_eq_true (by assumption)
       have q276 : x5_1 < (l0.length : Int) := of_decide_eq_true (by assumption)
       obtain ⟨ad276, A276_4, c276_4, e276, hx276_0, hx276_1, hx276_2, hx276_3, hx276_4, hl276_4, hi276_4⟩ := at_T42 HR0.out x5_1 p276 q276
       cases e276
       replace hx276_0 := hz HB hx276_0
       replace hx276_1 := hz HB hx276_1
       replace hx276_2 := hz HB hx276_2
       replace hx276_3 := hz HB hx276_3
       replace hx276_4 := hz HB hx276_4
       have HR276_4 := Aside0.mk hi276_4
       have HC276_4 := Aside0.mk hl276_4
       clear hi276_4 hl276_4
       replace p276 := eq_true p276
       replace q276 := eq_true q276
       go_wp2
       go_ret
       exact ⟨by first | rfl | (simp [errW_none, errW_some] <;> rfl) | (simp [*, errW_none, errW_some] <;> rfl), (zb w)⟩
      ·rw [if_neg c6] at H
       have c6b0 : (((rd_T42 l0 x5_1).f1).toList == ([] : List UInt8)) = false := beq_eq_false_iff_ne.mpr c6
       have c6b1 : (((rd_T42 l0 x5_1).f1).toList != ([] : List UInt8)) = true := bne_iff_ne.mpr c6
       replace H := Option.bind_eq_some_iff.mp H
       obtain ⟨t278, A70, H⟩ := H
       try dsimp only at H
       have A7 := Aside0.mk A70
       clear A70
       by_cases c8 : t278 = a1
       ·rw [if_pos c8] at H
        have c8b0 : (t278 == a1) = true := beq_iff_eq.mpr c8
        have c8b1 : (t278 != a1) = false := bne_eq_false_iff_eq.mpr c8
        clear c8
        obtain rfl := Option.some.inj H
        have p276 : 0 ≤ (x5_1 : Int) := of_decide_eq_true (by assumption)
        have q276 : x5_1 < (l0.length : Int) := of_decide_eq_true (by assumption)
        obtain ⟨ad276, A276_4, c276_4, e276, hx276_0, hx276_1, hx276_2, hx276_3, hx276_4, hl276_4, hi276_4⟩ := at_T42 HR0.out x5_1 p276 q276
        cases e276
        replace hx276_0 := hz HB hx276_0
        replace hx276_1 := hz HB hx276_1
        replace hx276_2 := hz HB hx276_2
        replace hx276_3 := hz HB hx276_3
        replace hx276_4 := hz HB hx276_4
        have HR276_4 := Aside0.mk hi276_4
        have HC276_4 := Aside0.mk hl276_4
        clear hi276_4 hl276_4
        replace p276 := eq_true p276
        replace q276 := eq_true q276
        have p277 : 0 ≤ (x5_1 : Int) := of_decide_eq_true (by assumption)
        have q277 : x5_1 < (l0.length : Int) := of_decide_eq_true (by assumption)
        obtain ⟨ad277, A277_4, c277_4, e277, hx277_0, hx277_1, hx277_2, hx277_3, hx277_4, hl277_4, hi277_4⟩ := at_T42 HR0.out x5_1 p277 q277
        obtain rfl : ad276 = ad277 := (by injection e277)
        replace hx277_0 := hz HB hx277_0
        replace hx277_1 := hz HB hx277_1
        replace hx277_2 := hz HB hx277_2
        replace hx277_3 := hz HB hx277_3
        replace hx277_4 := hz HB hx277_4
        have HR277_4 := Aside0.mk hi277_4
        have HC277_4 := Aside0.mk hl277_4
        clear hi277_4 hl277_4
        replace p277 := eq_true p277
        replace q277 := eq_true q277
        have ea_ := Option.some.inj (hx276_4.symm.trans hx277_4)
        injection ea_ with ea_ en_ ec_
        subst ea_
        subst ec_
        clear en_
        go_wp2_with (first | ((with_reducible refine gC 12 rfl ?_); refine gl_ 23 Tryz.func12 #[.slice (some ad276) l0.length c0, .string ((rd_T42 l0 x5_1).f1)] ?_; (with_reducible refine (interchangeref10_parcelOf.calls k1 _ _ l0 ((rd_T42 l0 x5_1).f1) t278 _ (zc HR0) HC0.out A7.out).mono ?_); rintro e w9 ⟨rfl, hb⟩; refine ⟨_, rfl, ?_⟩; replace HB := hs w hb; (try clear hb)))
        go_ret
        exact ⟨by first | rfl | (simp [errW_none, errW_some] <;> rfl) | (simp [*, errW_none, errW_some] <;> rfl), (zb w)⟩
       ·rw [if_neg c8] at H
        have c8b0 : (t278 == a1) = false := beq_eq_false_iff_ne.mpr c8
        have c8b1 : (t278 != a1) = true := bne_iff_ne.mpr c8
        have H' := Aside0.mk H
        clear H
        have p276 : 0 ≤ (x5_1 : Int) := of_decide_eq_true (by assumption)
        have q276 : x5_1 < (l0.length : Int) := of_decide_eq_true (by assumption)
        obtain ⟨ad276, A276_4, c276_4, e276, hx276_0, hx276_1, hx276_2, hx276_3, hx276_4, hl276_4, hi276_4⟩ := at_T42 HR0.out x5_1 p276 q276
        cases e276
        replace hx276_0 := hz HB hx276_0
        replace hx276_1 := hz HB hx276_1
        replace hx276_2 := hz HB hx276_2
        replace hx276_3 := hz HB hx276_3
        replace hx276_4 := hz HB hx276_4
        have HR276_4 := Aside0.mk hi276_4
        have HC276_4 := Aside0.mk hl276_4
        clear hi276_4 hl276_4
        replace p276 := eq_true p276
        replace q276 := eq_true q276
        have p277 : 0 ≤ (x5_1 : Int) := of_decide_eq_true (by assumption)
        have q277 : x5_1 < (l0.length : Int) := of_decide_eq_true (by assumption)
        obtain ⟨ad277, A277_4, c277_4, e277, hx277_0, hx277_1, hx277_2, hx277_3, hx277_4, hl277_4, hi277_4⟩ := at_T42 HR0.out x5_1 p277 q277
        obtain rfl : ad276 = ad277 := (by injection e277)
        replace hx277_0 := hz HB hx277_0
        replace hx277_1 := hz HB hx277_1
        replace hx277_2 := hz HB hx277_2
        replace hx277_3 := hz HB hx277_3
        replace hx277_4 := hz HB hx277_4
        have HR277_4 := Aside0.mk hi277_4
        have HC277_4 := Aside0.mk hl277_4
        clear hi277_4 hl277_4
        replace p277 := eq_true p277
        replace q277 := eq_true q277
        have ea_ := Option.some.inj (hx276_4.symm.trans hx277_4)
        injection ea_ with ea_ en_ ec_
        subst ea_
        subst ec_
        clear en_
        go_wp2_with (first | ((with_reducible refine gC 12 rfl ?_); refine gl_ 23 Tryz.func12 #[.slice (some ad276) l0.length c0, .string ((rd_T42 l0 x5_1).f1)] ?_; (with_reducible refine (interchangeref10_parcelOf.calls k1 _ _ l0 ((rd_T42 l0 x5_1).f1) t278 _ (zc HR0) HC0.out A7.out).mono ?_); rintro e w10 ⟨rfl, hb⟩; refine ⟨_, rfl, ?_⟩; replace HB := hs w hb; (try clear hb)))
        go_roundg k1
        case measure => have := HK1.out; omega
        case rel => exact ⟨(t278), (wrap64 (x9_1 + 1)), ar, ar, H', ⟨by have := HK1.out; omega⟩, ⟨(zb w)⟩⟩
     ·rw [if_neg c5] at H
      exact absurd H (by simp)
    ·rw [if_neg c4] at H
     exact absurd H (by simp)
   ·rw [if_neg c3] at H
    have c3b0 : decide (x9_1 < (l0.length : Int)) = false := decide_eq_false c3
    clear c3
    obtain rfl := Option.some.inj H
    go_wp2
    go_ret
    exact ⟨by first | rfl | (simp [errW_none, errW_some] <;> rfl) | (simp [*, errW_none, errW_some] <;> rfl), (zb w)⟩

end Go.Proofs.YthgefhnolmloiaaGreatDoor.P3
