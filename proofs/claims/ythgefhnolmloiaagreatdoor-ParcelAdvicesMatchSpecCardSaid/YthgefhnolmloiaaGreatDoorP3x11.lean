-- Made by a program of this session out of the translation (wip/pp.py): functions, contracts.
import Derived.Test.YthgefhnolmloiaaGreatDoorP3x0
import Derived.Test.YthgefhnolmloiaaGreatDoorP3x1
import Derived.Test.YthgefhnolmloiaaGreatDoorP3x2
import Derived.Test.YthgefhnolmloiaaGreatDoorP3x6
import Derived.Test.YthgefhnolmloiaaGreatDoorP3x8
import Derived.Test.YthgefhnolmloiaaGreatDoorP3x10
namespace Go.Proofs.YthgefhnolmloiaaGreatDoor.P3
open Go.RowKit Go.Proofs.YthgefhnolmloiaaGreatDoorW.PrintWords Go.Proofs.YthgefhnolmloiaaGreatDoorW.PrintLast Go.Proofs.YthgefhnolmloiaaGreatDoorW.PrintMore
attribute [local go_sem] max2_int min2_int max_two min_two max_three min_three max_four min_four   -- for this text's walks alone
set_option linter.unusedVariables false
set_option linter.unusedSimpArgs false

/-! ### interchangeref10_CheckAdvice: function 6 -/
mutual
def interchangeref10_CheckAdvice.j0 : Nat → Bool → ByteArray → ByteArray → Int → List (S42) → Option (Int)
 | 0, _, _, _, _, _ => none
 | k + 1, x6, x288000, x288001, x288002, x288003 => if x6 = true then (some 5) else ((interchangeref1_IsDay.f x288002).bind fun t290 => (if t290 = true then (if (x288003.length : Int) > 500 then (some 2) else (interchangeref10_CheckAdvice.l0 k x288003 (x288003.length : Int) 0 x288000 x288001 x288002 x288003)) else (some 1)))
def interchangeref10_CheckAdvice.l0 : Nat → List (S42) → Int → Int → ByteArray → ByteArray → Int → List (S42) → Option (Int)
 | 0, _, _, _, _, _, _, _ => none
 | k + 1, x28, x29, x30, x288000, x288001, x288002, x288003 => if x30 < x29 then (if 0 ≤ x30 then (if x30 < (x28.length : Int) then ((interchangeref10_isLabel.f k ((rd_T42 x28 x30).f0)).bind fun t294 => (if t294 = true then (if x30 > 0 then (if 0 ≤ (wrap64 (x30 - 1)) then (if (wrap64 (x30 - 1)) < (x288003.length : Int) then (interchangeref10_CheckAdvice.j2 k x28 x29 x30 (!(Op.bytesLess (((rd_T42 x288003 (wrap64 (x30 - 1))).f0).toList) (((rd_T42 x28 x30).f0).toList))) x288000 x288001 x288002 x288003 ((rd_T42 x28 x30).f0) ((rd_T42 x28 x30).f1) ((rd_T42 x28 x30).f2.f0) ((rd_T42 x28 x30).f2.f1) ((rd_T42 x28 x30).f3)) else (none)) else (none)) else (interchangeref10_CheckAdvice.j2 k x28 x29 x30 false x288000 x288001 x288002 x288003 ((rd_T42 x28 x30).f0) ((rd_T42 x28 x30).f1) ((rd_T42 x28 x30).f2.f0) ((rd_T42 x28 x30).f2.f1) ((rd_T42 x28 x30).f3))) else (some 3))) else (none)) else (none)) else ((interchangeref10_nests.f k x288003).bind fun t291 => (some t291))
def interchangeref10_CheckAdvice.j2 : Nat → List (S42) → Int → Int → Bool → ByteArray → ByteArray → Int → List (S42) → ByteArray → ByteArray → Int → Int → List (S66) → Option (Int)
 | 0, _, _, _, _, _, _, _, _, _, _, _, _, _ => none
 | k + 1, x28, x29, x30, x40, x288000, x288001, x288002, x288003, x294000, x294001, x294002, x294003, x294004 => if x40 = true then (some 8) else ((interchangeref10_isMass.f k x294002 x294003 false).bind fun t296 => (if t296 = true then ((interchangeref10_checkContents.f k x294004).bind fun t297 => (if t297 = 0 then (interchangeref10_CheckAdvice.l0 k x28 x29 (wrap64 (x30 + 1)) x288000 x288001 x288002 x288003) else (some t297))) else (some 1)))
end
def interchangeref10_CheckAdvice.f (k : Nat) (a0_0 : ByteArray) (a0_1 : ByteArray) (a0_2 : Int) (l0_3 : List (S42)) : Option (Int) := (interchangeref1_IsName.f k a0_0).bind fun t288 => (if t288 = true then ((interchangeref1_IsName.f k a0_1).bind fun t289 => (interchangeref10_CheckAdvice.j0 k (!t289) a0_0 a0_1 a0_2 l0_3)) else (interchangeref10_CheckAdvice.j0 k true a0_0 a0_1 a0_2 l0_3))
theorem interchangeref10_CheckAdvice.mono_l : ∀ k, (∀ y0 y1 y2 y3 y4, LeO (interchangeref10_CheckAdvice.j0 k y0 y1 y2 y3 y4) (interchangeref10_CheckAdvice.j0 (k + 1) y0 y1 y2 y3 y4)) ∧ (∀ y0 y1 y2 y3 y4 y5 y6, LeO (interchangeref10_CheckAdvice.l0 k y0 y1 y2 y3 y4 y5 y6) (interchangeref10_CheckAdvice.l0 (k + 1) y0 y1 y2 y3 y4 y5 y6)) ∧ (∀ y0 y1 y2 y3 y4 y5 y6 y7 y8 y9 y10 y11 y12, LeO (interchangeref10_CheckAdvice.j2 k y0 y1 y2 y3 y4 y5 y6 y7 y8 y9 y10 y11 y12) (interchangeref10_CheckAdvice.j2 (k + 1) y0 y1 y2 y3 y4 y5 y6 y7 y8 y9 y10 y11 y12))
 | 0 => ⟨fun _ _ _ _ _ r h => by simp [interchangeref10_CheckAdvice.j0] at h, fun _ _ _ _ _ _ _ r h => by simp [interchangeref10_CheckAdvice.l0] at h, fun _ _ _ _ _ _ _ _ _ _ _ _ _ r h => by simp [interchangeref10_CheckAdvice.j2] at h⟩
 | k + 1 => by
  obtain ⟨ih0, ih1, ih2⟩ := interchangeref10_CheckAdvice.mono_l k
  refine ⟨?_, ?_, ?_⟩
  ·intro y0 y1 y2 y3 y4
   unfold interchangeref10_CheckAdvice.j0
   repeat' first | with_reducible first | exact ih0 _ _ _ _ _ | exact ih1 _ _ _ _ _ _ _ | exact ih2 _ _ _ _ _ _ _ _ _ _ _ _ _ | exact interchangeref10_checkContents.mono _ _ | exact interchangeref10_isLabel.mono _ _ | exact interchangeref10_isMass.mono _ _ _ _ | exact interchangeref10_nests.mono _ _ | exact interchangeref1_IsName.mono _ _ | exact lr _ | exact ln _ | refine li ?_ ?_ | refine lb ?_ fun _ => ?_ | exact ih0 _ _ _ _ _ | exact ih1 _ _ _ _ _ _ _ | exact ih2 _ _ _ _ _ _ _ _ _ _ _ _ _ | exact interchangeref10_checkContents.mono _ _ | exact interchangeref10_isLabel.mono _ _ | exact interchangeref10_isMass.mono _ _ _ _ | exact interchangeref10_nests.mono _ _ | exact interchangeref1_IsName.mono _ _ | exact ln _ | refine li ?_ ?_ | refine lb ?_ fun _ => ?_
  ·intro y0 y1 y2 y3 y4 y5 y6
   unfold interchangeref10_CheckAdvice.l0
   repeat' first | with_reducible first | exact ih0 _ _ _ _ _ | exact ih1 _ _ _ _ _ _ _ | exact ih2 _ _ _ _ _ _ _ _ _ _ _ _ _ | exact interchangeref10_checkContents.mono _ _ | exact interchangeref10_isLabel.mono _ _ | exact interchangeref10_isMass.mono _ _ _ _ | exact interchangeref10_nests.mono _ _ | exact interchangeref1_IsName.mono _ _ | exact lr _ | exact ln _ | refine li ?_ ?_ | refine lb ?_ fun _ => ?_ | exact ih0 _ _ _ _ _ | exact ih1 _ _ _ _ _ _ _ | exact ih2 _ _ _ _ _ _ _ _ _ _ _ _ _ | exact interchangeref10_checkContents.mono _ _ | exact interchangeref10_isLabel.mono _ _ | exact interchangeref10_isMass.mono _ _ _ _ | exact interchangeref10_nests.mono _ _ | exact interchangeref1_IsName.mono _ _ | exact ln _ | refine li ?_ ?_ | refine lb ?_ fun _ => ?_
  ·intro y0 y1 y2 y3 y4 y5 y6 y7 y8 y9 y10 y11 y12
   unfold interchangeref10_CheckAdvice.j2
   repeat' first | with_reducible first | exact ih0 _ _ _ _ _ | exact ih1 _ _ _ _ _ _ _ | exact ih2 _ _ _ _ _ _ _ _ _ _ _ _ _ | exact interchangeref10_checkContents.mono _ _ | exact interchangeref10_isLabel.mono _ _ | exact interchangeref10_isMass.mono _ _ _ _ | exact interchangeref10_nests.mono _ _ | exact interchangeref1_IsName.mono _ _ | exact lr _ | exact ln _ | refine li ?_ ?_ | refine lb ?_ fun _ => ?_ | exact ih0 _ _ _ _ _ | exact ih1 _ _ _ _ _ _ _ | exact ih2 _ _ _ _ _ _ _ _ _ _ _ _ _ | exact interchangeref10_checkContents.mono _ _ | exact interchangeref10_isLabel.mono _ _ | exact interchangeref10_isMass.mono _ _ _ _ | exact interchangeref10_nests.mono _ _ | exact interchangeref1_IsName.mono _ _ | exact ln _ | refine li ?_ ?_ | refine lb ?_ fun _ => ?_
theorem interchangeref10_CheckAdvice.mono : ∀ a0 a1 a2 a3 k, LeO (interchangeref10_CheckAdvice.f k a0 a1 a2 a3) (interchangeref10_CheckAdvice.f (k + 1) a0 a1 a2 a3) := by
 intro a0 a1 a2 a3 k
 obtain ⟨ih0, ih1, ih2⟩ := interchangeref10_CheckAdvice.mono_l k
 unfold interchangeref10_CheckAdvice.f
 repeat' first | with_reducible first | exact ih0 _ _ _ _ _ | exact ih1 _ _ _ _ _ _ _ | exact ih2 _ _ _ _ _ _ _ _ _ _ _ _ _ | exact interchangeref10_checkContents.mono _ _ | exact interchangeref10_isLabel.mono _ _ | exact interchangeref10_isMass.mono _ _ _ _ | exact interchangeref10_nests.mono _ _ | exact interchangeref1_IsName.mono _ _ | exact lr _ | exact ln _ | refine li ?_ ?_ | refine lb ?_ fun _ => ?_ | exact ih0 _ _ _ _ _ | exact ih1 _ _ _ _ _ _ _ | exact ih2 _ _ _ _ _ _ _ _ _ _ _ _ _ | exact interchangeref10_checkContents.mono _ _ | exact interchangeref10_isLabel.mono _ _ | exact interchangeref10_isMass.mono _ _ _ _ | exact interchangeref10_nests.mono _ _ | exact interchangeref1_IsName.mono _ _ | exact ln _ | refine li ?_ ?_ | refine lb ?_ fun _ => ?_
set_option maxHeartbeats 8000000 in
set_option maxRecDepth 100000 in
theorem interchangeref10_CheckAdvice.calls (k : Nat) (a0_0 : ByteArray) (a0_1 : ByteArray) (a0_2 : Int) (A0_3 : Option Addr) (c0_3 : Nat) (l0_3 : List (S42)) (r : Int) (w : World) (hr0_3 : Kd.C k42 w A0_3 l0_3.length l0_3) (hc0_3 : l0_3.length ≤ c0_3) (h : interchangeref10_CheckAdvice.f k a0_0 a0_1 a0_2 l0_3 = some r) :
  Calls Tryz.prog 6 #[.agg #[.string a0_0, .string a0_1, .int .i64 a0_2, .slice A0_3 l0_3.length c0_3]] w fun e w' => e = .returned (.int .i64 r) ∧ Below w.heap.size w w' := by
 have hsq1_ := R_str_leq
 have hsq2_ := R_str_gtr
 have hsq3_ := R_str_geq
 have hu24 := Tryz.underlying24
 have hu42 := Tryz.underlying42
 have hu39 := Tryz.underlying39
 have HR0_3 := Aside0.mk hr0_3
 have HC0_3 := Aside0.mk hc0_3
 clear hr0_3 hc0_3
 have HB := Aside0.mk (Below.refl w.heap.size w)
 have H := h
 unfold interchangeref10_CheckAdvice.f at H
 clear h
 have HC2 := Aside0.mk H
 clear H
 go_enter Tryz.func6, Tryz.ntmps6
 go_upto_region 1 with (first | ((with_reducible refine gD 1 rfl ?_); refine bx w 1 #[.string a0_0, .string a0_1, .int .i64 a0_2, .slice A0_3 l0_3.length c0_3] 24 ?_; intro gb287 hg w3 hb BK287 GW287 GE287; clear HB; intro HB; clear hb hg))
 repeat (go_quiet (first | ((with_reducible refine gD 1 rfl ?_); refine bx w 1 #[.string a0_0, .string a0_1, .int .i64 a0_2, .slice A0_3 l0_3.length c0_3] 24 ?_; intro gb287 hg w3 hb BK287 GW287 GE287; clear HB; intro HB; clear hb hg)); go_upto_region 1 with (first | ((with_reducible refine gD 1 rfl ?_); refine bx w 1 #[.string a0_0, .string a0_1, .int .i64 a0_2, .slice A0_3 l0_3.length c0_3] 24 ?_; intro gb287 hg w3 hb BK287 GW287 GE287; clear HB; intro HB; clear hb hg)))
 (try simp only [sq])
 go_cut [6] (fun v6 wc => ∃ (kq : Nat) (x6_1 : Bool), v6 = .bool x6_1 ∧ Aside0 (interchangeref10_CheckAdvice.j0 kq x6_1 a0_0 a0_1 a0_2 l0_3 = some r) ∧ Aside0 (kq ≤ k) ∧ Aside0 (wc.heap[gb287]? = some (.cells #[.string a0_0, .string a0_1, .int .i64 a0_2, (.slice A0_3 l0_3.length c0_3)] 24 (0, 0))) ∧ Aside0 (Below w.heap.size w wc))
 case first =>
  have H := HC2.out
  clear HC2
  replace H := Option.bind_eq_some_iff.mp H
  obtain ⟨t288, A40, H⟩ := H
  try dsimp only at H
  have A4 := Aside0.mk A40
  clear A40
  by_cases c5 : t288 = true
  ·subst c5
   have H1 : ((interchangeref1_IsName.f k a0_1).bind fun t289 => (interchangeref10_CheckAdvice.j0 k (!t289) a0_0 a0_1 a0_2 l0_3)) = some r := by rw [if_pos rfl] at H; exact H
   clear H
   have H := H1
   clear H1
   replace H := Option.bind_eq_some_iff.mp H
   obtain ⟨t289, A60, H⟩ := H
   try dsimp only at H
   have A6 := Aside0.mk A60
   clear A60
   have H' := Aside0.mk H
   clear H
   obtain ⟨hcz7_0, hcz7_1, hcz7_2, hcz7_3, hfz7_0, hfz7_1, hfz7_2, hfz7_3⟩ := cz4 BK287
   go_wp2_with (first | (go_at_call 17; (with_reducible refine (interchangeref1_IsName.calls k a0_0 true _ A4.out).mono ?_); rintro e w' ⟨rfl, ⟨nd, rfl⟩⟩; (try first | exact ⟨rfl, _, World.drewN_drewN _ _ _⟩ | exact ⟨rfl, _, Eq.trans (World.drewN_drewN _ _ _) (congrArg (World.drewN _) (Nat.add_assoc _ _ _))⟩)) | (go_at_call 17; (with_reducible refine (interchangeref1_IsName.calls k a0_1 t289 _ A6.out).mono ?_); rintro e w' ⟨rfl, ⟨nd, rfl⟩⟩; (try first | exact ⟨rfl, _, World.drewN_drewN _ _ _⟩ | exact ⟨rfl, _, Eq.trans (World.drewN_drewN _ _ _) (congrArg (World.drewN _) (Nat.add_assoc _ _ _))⟩)))
   repeat (go_quiet (first | (go_at_call 17; (with_reducible refine (interchangeref1_IsName.calls k a0_0 true _ A4.out).mono ?_); rintro e w' ⟨rfl, ⟨nd, rfl⟩⟩; (try first | exact ⟨rfl, _, World.drewN_drewN _ _ _⟩ | exact ⟨rfl, _, Eq.trans (World.drewN_drewN _ _ _) (congrArg (World.drewN _) (Nat.add_assoc _ _ _))⟩)) | (go_at_call 17; (with_reducible refine (interchangeref1_IsName.calls k a0_1 t289 _ A6.out).mono ?_); rintro e w' ⟨rfl, ⟨nd, rfl⟩⟩; (try first | exact ⟨rfl, _, World.drewN_drewN _ _ _⟩ | exact ⟨rfl, _, Eq.trans (World.drewN_drewN _ _ _) (congrArg (World.drewN _) (Nat.add_assoc _ _ _))⟩))); try go_wp2_with (first | (go_at_call 17; (with_reducible refine (interchangeref1_IsName.calls k a0_0 true _ A4.out).mono ?_); rintro e w' ⟨rfl, ⟨nd, rfl⟩⟩; (try first | exact ⟨rfl, _, World.drewN_drewN _ _ _⟩ | exact ⟨rfl, _, Eq.trans (World.drewN_drewN _ _ _) (congrArg (World.drewN _) (Nat.add_assoc _ _ _))⟩)) | (go_at_call 17; (with_reducible refine (interchangeref1_IsName.calls k a0_1 t289 _ A6.out).mono ?_); rintro e w' ⟨rfl, ⟨nd, rfl⟩⟩; (try first | exact ⟨rfl, _, World.drewN_drewN _ _ _⟩ | exact ⟨rfl, _, Eq.trans (World.drewN_drewN _ _ _) (congrArg (World.drewN _) (Nat.add_assoc _ _ _))⟩))))
   go_meet
   case rel => exact ⟨_, (!t289), ar, H', ⟨by first | omega | exact Nat.le_refl _⟩, ⟨(zk BK287)⟩, ⟨(zb w)⟩⟩
  ·replace c5 := Bool.eq_false_iff.mpr c5
   subst c5
   have H1 : (interchangeref10_CheckAdvice.j0 k true a0_0 a0_1 a0_2 l0_3) = some r := by rw [if_neg (show ¬ (false = true) by decide)] at H; exact H
   clear H
   have H := H1
   clear H1
   have H' := Aside0.mk H
   clear H
   obtain ⟨hcz8_0, hcz8_1, hcz8_2, hcz8_3, hfz8_0, hfz8_1, hfz8_2, hfz8_3⟩ := cz4 BK287
   go_wp2_with (first | (go_at_call 17; (with_reducible refine (interchangeref1_IsName.calls k a0_0 false _ A4.out).mono ?_); rintro e w' ⟨rfl, ⟨nd, rfl⟩⟩; (try first | exact ⟨rfl, _, World.drewN_drewN _ _ _⟩ | exact ⟨rfl, _, Eq.trans (World.drewN_drewN _ _ _) (congrArg (World.drewN _) (Nat.add_assoc _ _ _))⟩)))
   repeat (go_quiet (first | (go_at_call 17; (with_reducible refine (interchangeref1_IsName.calls k a0_0 false _ A4.out).mono ?_); rintro e w' ⟨rfl, ⟨nd, rfl⟩⟩; (try first | exact ⟨rfl, _, World.drewN_drewN _ _ _⟩ | exact ⟨rfl, _, Eq.trans (World.drewN_drewN _ _ _) (congrArg (World.drewN _) (Nat.add_assoc _ _ _))⟩))); try go_wp2_with (first | (go_at_call 17; (with_reducible refine (interchangeref1_IsName.calls k a0_0 false _ A4.out).mono ?_); rintro e w' ⟨rfl, ⟨nd, rfl⟩⟩; (try first | exact ⟨rfl, _, World.drewN_drewN _ _ _⟩ | exact ⟨rfl, _, Eq.trans (World.drewN_drewN _ _ _) (congrArg (World.drewN _) (Nat.add_assoc _ _ _))⟩))))
   go_meet
   case rel => exact ⟨_, (true), ar, H', ⟨by first | omega | exact Nat.le_refl _⟩, ⟨(zk BK287)⟩, ⟨(zb w)⟩⟩
 case rest =>
  clear HC2
  try clear p2
  try clear c5
  try clear c6
  try clear hcz7_0 hcz7_1 hcz7_2 hcz7_3
  try clear hcz8_0 hcz8_1 hcz8_2 hcz8_3
  try clear hfz7_0 hfz7_1 hfz7_2 hfz7_3
  try clear hfz8_0 hfz8_1 hfz8_2 hfz8_3
  obtain ⟨kq, x6_1, rfl, HA, HJ1, BK287, HB⟩ := hcut
  cases kq with
  | zero => exact absurd HA.out (by simp [interchangeref10_CheckAdvice.j0])
  | succ kj1 =>
   have H := HA.out
   clear HA
   simp only [interchangeref10_CheckAdvice.j0] at H
   by_cases c9 : x6_1 = true
   ·subst c9
    have H1 : (some 5) = some r := by rw [if_pos rfl] at H; exact H
    clear H
    have H := H1
    clear H1
    obtain rfl := Option.some.inj H
    go_wp2
    repeat (go_quiet (fail); try go_wp2)
    go_ret
    exact ⟨by first | rfl | (simp [errW_none, errW_some] <;> rfl) | (simp [*, errW_none, errW_some] <;> rfl), (zb w)⟩
   ·replace c9 := Bool.eq_false_iff.mpr c9
    subst c9
    have H1 : ((interchangeref1_IsDay.f a0_2).bind fun t290 => (if t290 = true then (if (l0_3.length : Int) > 500 then (some 2) else (interchangeref10_CheckAdvice.l0 kj1 l0_3 (l0_3.length : Int) 0 a0_0 a0_1 a0_2 l0_3)) else (some 1))) = some r := by rw [if_neg (show ¬ (false = true) by decide)] at H; exact H
    clear H
    have H := H1
    clear H1
    replace H := Option.bind_eq_some_iff.mp H
    obtain ⟨t290, A100, H⟩ := H
    try dsimp only at H
    have A10 := Aside0.mk A100
    clear A100
    by_cases c11 : t290 = true
    ·subst c11
     have H1 : (if (l0_3.length : Int) > 500 then (some 2) else (interchangeref10_CheckAdvice.l0 kj1 l0_3 (l0_3.length : Int) 0 a0_0 a0_1 a0_2 l0_3)) = some r := by rw [if_pos rfl] at H; exact H
     clear H
     have H := H1
     clear H1
     by_cases c12 : (l0_3.length : Int) > 500
     ·rw [if_pos c12] at H
      have c12b0 : decide (500 < (l0_3.length : Int)) = true := decide_eq_true c12
      have c12b1 : decide (500 < l0_3.length) = true := decide_eq_true (by omega)
      clear c12
      obtain rfl := Option.some.inj H
      obtain ⟨hcz13_0, hcz13_1, hcz13_2, hcz13_3, hfz13_0, hfz13_1, hfz13_2, hfz13_3⟩ := cz4 BK287
      go_wp2_with (first | (go_at_call 18; (with_reducible refine (interchangeref1_IsDay.calls a0_2 true _ A10.out).mono ?_); rintro e w' ⟨rfl, ⟨nd, rfl⟩⟩; (try first | exact ⟨rfl, _, World.drewN_drewN _ _ _⟩ | exact ⟨rfl, _, Eq.trans (World.drewN_drewN _ _ _) (congrArg (World.drewN _) (Nat.add_assoc _ _ _))⟩)))
      repeat (go_quiet (first | (go_at_call 18; (with_reducible refine (interchangeref1_IsDay.calls a0_2 true _ A10.out).mono ?_); rintro e w' ⟨rfl, ⟨nd, rfl⟩⟩; (try first | exact ⟨rfl, _, World.drewN_drewN _ _ _⟩ | exact ⟨rfl, _, Eq.trans (World.drewN_drewN _ _ _) (congrArg (World.drewN _) (Nat.add_assoc _ _ _))⟩))); try go_wp2_with (first | (go_at_call 18; (with_reducible refine (interchangeref1_IsDay.calls a0_2 true _ A10.out).mono ?_); rintro e w' ⟨rfl, ⟨nd, rfl⟩⟩; (try first | exact ⟨rfl, _, World.drewN_drewN _ _ _⟩ | exact ⟨rfl, _, Eq.trans (World.drewN_drewN _ _ _) (congrArg (World.drewN _) (Nat.add_assoc _ _ _))⟩))))
      go_ret
      exact ⟨by first | rfl | (simp [errW_none, errW_some] <;> rfl) | (simp [*, errW_none, errW_some] <;> rfl), (zb w)⟩
     ·rw [if_neg c12] at H
      have c12b0 : decide (500 < (l0_3.length : Int)) = false := decide_eq_false c12
      have c12b1 : decide (500 < l0_3.length) = false := decide_eq_false (by omega)
      clear c12
      have H' := Aside0.mk H
      clear H
      obtain ⟨hcz14_0, hcz14_1, hcz14_2, hcz14_3, hfz14_0, hfz14_1, hfz14_2, hfz14_3⟩ := cz4 BK287
      go_wp2_with (first | (go_at_call 18; (with_reducible refine (interchangeref1_IsDay.calls a0_2 true _ A10.out).mono ?_); rintro e w' ⟨rfl, ⟨nd, rfl⟩⟩; (try first | exact ⟨rfl, _, World.drewN_drewN _ _ _⟩ | exact ⟨rfl, _, Eq.trans (World.drewN_drewN _ _ _) (congrArg (World.drewN _) (Nat.add_assoc _ _ _))⟩)))
      repeat (go_quiet (first | (go_at_call 18; (with_reducible refine (interchangeref1_IsDay.calls a0_2 true _ A10.out).mono ?_); rintro e w' ⟨rfl, ⟨nd, rfl⟩⟩; (try first | exact ⟨rfl, _, World.drewN_drewN _ _ _⟩ | exact ⟨rfl, _, Eq.trans (World.drewN_drewN _ _ _) (congrArg (World.drewN _) (Nat.add_assoc _ _ _))⟩))); try go_wp2_with (first | (go_at_call 18; (with_reducible refine (interchangeref1_IsDay.calls a0_2 true _ A10.out).mono ?_); rintro e w' ⟨rfl, ⟨nd, rfl⟩⟩; (try first | exact ⟨rfl, _, World.drewN_drewN _ _ _⟩ | exact ⟨rfl, _, Eq.trans (World.drewN_drewN _ _ _) (congrArg (World.drewN _) (Nat.add_assoc _ _ _))⟩))))
      try simp only [sq]
      go_loopg [30] kj1 (fun kq v30 w' => ∃ (x30_2 : Int), v30 = .int .i64 x30_2 ∧ Aside0 (interchangeref10_CheckAdvice.l0 kq l0_3 (l0_3.length : Int) x30_2 a0_0 a0_1 a0_2 l0_3 = some r) ∧ Aside0 (kq ≤ kj1) ∧ Aside0 (w'.heap[gb287]? = some (.cells #[.string a0_0, .string a0_1, .int .i64 a0_2, (.slice A0_3 l0_3.length c0_3)] 24 (0, 0))) ∧ Aside0 (Below w.heap.size w w'))
      case atStart => exact ⟨(0), ar, H', ⟨Nat.le_refl _⟩, ⟨(zk BK287)⟩, ⟨(zb w)⟩⟩
      case round =>
       clear H'
       try clear c1
       try clear p2
       try clear c5
       try clear c6
       try clear c9
       try clear c11
       try clear c12
       try clear c12b0
       try clear c12b1
       try clear hcz13_0 hcz13_1 hcz13_2 hcz13_3
       try clear hcz14_0 hcz14_1 hcz14_2 hcz14_3
       try clear hcz7_0 hcz7_1 hcz7_2 hcz7_3
       try clear hcz8_0 hcz8_1 hcz8_2 hcz8_3
       try clear hfz13_0 hfz13_1 hfz13_2 hfz13_3
       try clear hfz14_0 hfz14_1 hfz14_2 hfz14_3
       try clear hfz7_0 hfz7_1 hfz7_2 hfz7_3
       try clear hfz8_0 hfz8_1 hfz8_2 hfz8_3
       try clear p2
       obtain ⟨x30_2, rfl, HA, HK2, BK287, HB⟩ := hrel
       cases gk with
       | zero => exact absurd HA.out (by simp [interchangeref10_CheckAdvice.l0])
       | succ k2 =>
        have H := HA.out
        clear HA
        simp only [interchangeref10_CheckAdvice.l0] at H
        by_cases c15 : x30_2 < (l0_3.length : Int)
        ·rw [if_pos c15] at H
         have c15b0 : decide (x30_2 < (l0_3.length : Int)) = true := decide_eq_true c15
         clear c15
         by_cases c16 : 0 ≤ x30_2
         ·rw [if_pos c16] at H
          have c16b0 : decide (0 ≤ x30_2) = true := decide_eq_true c16
          clear c16
          by_cases c17 : x30_2 < (l0_3.length : Int)
          ·rw [if_pos c17] at H
           have c17b0 : decide (x30_2 < (l0_3.length : Int)) = true := decide_eq_true c17
           clear c17
           replace H := Option.bind_eq_some_iff.mp H
           obtain ⟨t294, A180, H⟩ := H
           try dsimp only at H
           have A18 := Aside0.mk A180
           clear A180
           by_cases c19 : t294 = true
           ·subst c19
            have H1 : (if x30_2 > 0 then (if 0 ≤ (wrap64 (x30_2 - 1)) then (if (wrap64 (x30_2 - 1)) < (l0_3.length : Int) then (interchangeref10_CheckAdvice.j2 k2 l0_3 (l0_3.length : Int) x30_2 (!(Op.bytesLess (((rd_T42 l0_3 (wrap64 (x30_2 - 1))).f0).toList) (((rd_T42 l0_3 x30_2).f0).toList))) a0_0 a0_1 a0_2 l0_3 ((rd_T42 l0_3 x30_2).f0) ((rd_T42 l0_3 x30_2).f1) ((rd_T42 l0_3 x30_2).f2.f0) ((rd_T42 l0_3 x30_2).f2.f1) ((rd_T42 l0_3 x30_2).f3)) else (none)) else (none)) else (interchangeref10_CheckAdvice.j2 k2 l0_3 (l0_3.length : Int) x30_2 false a0_0 a0_1 a0_2 l0_3 ((rd_T42 l0_3 x30_2).f0) ((rd_T42 l0_3 x30_2).f1) ((rd_T42 l0_3 x30_2).f2.f0) ((rd_T42 l0_3 x30_2).f2.f1) ((rd_T42 l0_3 x30_2).f3))) = some r := by rw [if_pos rfl] at H; exact H
            clear H
            have H := H1
            clear H1
            have HC20 := Aside0.mk H
            clear H
            have p292 : 0 ≤ (x30_2 : Int) := of_decide_eq_true (by assumption)
            have q292 : x30_2 < (l0_3.length : Int) := of_decide_eq_true (by assumption)
            obtain ⟨ad292, A292_4, c292_4, e292, hx292_0, hx292_1, hx292_2, hx292_3, hx292_4, hl292_4, hi292_4⟩ := at_T42 HR0_3.out x30_2 p292 q292
            cases e292
            replace hx292_0 := hz HB hx292_0
            replace hx292_1 := hz HB hx292_1
            replace hx292_2 := hz HB hx292_2
            replace hx292_3 := hz HB hx292_3
            replace hx292_4 := hz HB hx292_4
            have HR292_4 := Aside0.mk hi292_4
            have HC292_4 := Aside0.mk hl292_4
            clear hi292_4 hl292_4
            replace p292 := eq_true p292
            replace q292 := eq_true q292
            go_upto_region 12 with (first | ((with_reducible refine gD 4 rfl ?_); refine bx w 4 #[.string (⟨#[]⟩ : ByteArray), .string (⟨#[]⟩ : ByteArray), .int .i64 0, .int .i64 0, .slice none 0 0] 42 ?_; intro gb293 hg w21 hb BK293 GW293 GE293; clear HB; intro HB; have NB287_293 := nbl BK287 hg; have NB293_287 := nbr BK287 hg; replace BK287 := bb BK287 hb; clear hb hg; have hnb22 := NB293_287.out; have hnc22 := NB287_293.out; obtain ⟨hcz23_0, hcz23_1, hcz23_2, hcz23_3, hcz23_4, hfz23_0, hfz23_1, hfz23_2, hfz23_3, hfz23_4⟩ := cz5 BK293) | (go_at_call 19; (with_reducible refine (interchangeref10_isLabel.calls k2 ((rd_T42 l0_3 x30_2).f0) true _ A18.out).mono ?_); rintro e w24 ⟨rfl, hb⟩; replace BK287 := Aside0.mk (blk_below (g := gb287) (o := .cells #[.string a0_0, .string a0_1, .int .i64 a0_2, .slice (some ad292) l0_3.length c0_3] 24 (0, 0)) (by (with_reducible repeat (first | refine blk_drewN ?_ _ | refine blk_drew ?_ | refine blk_alloc ?_ _)); refine blk_far ?_ NB287_293.out _; (with_reducible repeat (first | refine blk_drewN ?_ _ | refine blk_drew ?_ | refine blk_alloc ?_ _)); refine blk_far ?_ NB287_293.out _; (with_reducible repeat (first | refine blk_drewN ?_ _ | refine blk_drew ?_ | refine blk_alloc ?_ _)); refine blk_far ?_ NB287_293.out _; (with_reducible repeat (first | refine blk_drewN ?_ _ | refine blk_drew ?_ | refine blk_alloc ?_ _)); refine blk_far ?_ NB287_293.out _; (with_reducible repeat (first | refine blk_drewN ?_ _ | refine blk_drew ?_ | refine blk_alloc ?_ _)); refine blk_far ?_ NB287_293.out _; exact zk BK287) hb); replace BK293 := Aside0.mk (blk_below (g := gb293) (o := .cells #[.string ((rd_T42 l0_3 x30_2).f0), .string ((rd_T42 l0_3 x30_2).f1), .int .i64 ((rd_T42 l0_3 x30_2).f2.f0), .int .i64 ((rd_T42 l0_3 x30_2).f2.f1), .slice A292_4 ((rd_T42 l0_3 x30_2).f3).length c292_4] 42 (0, 0)) (by (with_reducible repeat (first | refine blk_drewN ?_ _ | refine blk_drew ?_ | refine blk_alloc ?_ _)); refine blk_put (cs := #[.string ((rd_T42 l0_3 x30_2).f0), .string ((rd_T42 l0_3 x30_2).f1), .int .i64 ((rd_T42 l0_3 x30_2).f2.f0), .int .i64 ((rd_T42 l0_3 x30_2).f2.f1), .slice none 0 0]) ?_ 4 _ rfl; (with_reducible repeat (first | refine blk_drewN ?_ _ | refine blk_drew ?_ | refine blk_alloc ?_ _)); refine blk_put (cs := #[.string ((rd_T42 l0_3 x30_2).f0), .string ((rd_T42 l0_3 x30_2).f1), .int .i64 ((rd_T42 l0_3 x30_2).f2.f0), .int .i64 0, .slice none 0 0]) ?_ 3 _ rfl; (with_reducible repeat (first | refine blk_drewN ?_ _ | refine blk_drew ?_ | refine blk_alloc ?_ _)); refine blk_put (cs := #[.string ((rd_T42 l0_3 x30_2).f0), .string ((rd_T42 l0_3 x30_2).f1), .int .i64 0, .int .i64 0, .slice none 0 0]) ?_ 2 _ rfl; (with_reducible repeat (first | refine blk_drewN ?_ _ | refine blk_drew ?_ | refine blk_alloc ?_ _)); refine blk_put (cs := #[.string ((rd_T42 l0_3 x30_2).f0), .string (⟨#[]⟩ : ByteArray), .int .i64 0, .int .i64 0, .slice none 0 0]) ?_ 1 _ rfl; (with_reducible repeat (first | refine blk_drewN ?_ _ | refine blk_drew ?_ | refine blk_alloc ?_ _)); refine blk_put (cs := #[.string (⟨#[]⟩ : ByteArray), .string (⟨#[]⟩ : ByteArray), .int .i64 0, .int .i64 0, .slice none 0 0]) ?_ 0 _ rfl; exact zk BK293) hb); replace HB := hs w hb; (try clear hb)))
            repeat (go_quiet (first | ((with_reducible refine gD 4 rfl ?_); refine bx w 4 #[.string (⟨#[]⟩ : ByteArray), .string (⟨#[]⟩ : ByteArray), .int .i64 0, .int .i64 0, .slice none 0 0] 42 ?_; intro gb293 hg w21 hb BK293 GW293 GE293; clear HB; intro HB; have NB287_293 := nbl BK287 hg; have NB293_287 := nbr BK287 hg; replace BK287 := bb BK287 hb; clear hb hg; have hnb22 := NB293_287.out; have hnc22 := NB287_293.out; obtain ⟨hcz23_0, hcz23_1, hcz23_2, hcz23_3, hcz23_4, hfz23_0, hfz23_1, hfz23_2, hfz23_3, hfz23_4⟩ := cz5 BK293) | (go_at_call 19; (with_reducible refine (interchangeref10_isLabel.calls k2 ((rd_T42 l0_3 x30_2).f0) true _ A18.out).mono ?_); rintro e w24 ⟨rfl, hb⟩; replace BK287 := Aside0.mk (blk_below (g := gb287) (o := .cells #[.string a0_0, .string a0_1, .int .i64 a0_2, .slice (some ad292) l0_3.length c0_3] 24 (0, 0)) (by (with_reducible repeat (first | refine blk_drewN ?_ _ | refine blk_drew ?_ | refine blk_alloc ?_ _)); refine blk_far ?_ NB287_293.out _; (with_reducible repeat (first | refine blk_drewN ?_ _ | refine blk_drew ?_ | refine blk_alloc ?_ _)); refine blk_far ?_ NB287_293.out _; (with_reducible repeat (first | refine blk_drewN ?_ _ | refine blk_drew ?_ | refine blk_alloc ?_ _)); refine blk_far ?_ NB287_293.out _; (with_reducible repeat (first | refine blk_drewN ?_ _ | refine blk_drew ?_ | refine blk_alloc ?_ _)); refine blk_far ?_ NB287_293.out _; (with_reducible repeat (first | refine blk_drewN ?_ _ | refine blk_drew ?_ | refine blk_alloc ?_ _)); refine blk_far ?_ NB287_293.out _; exact zk BK287) hb); replace BK293 := Aside0.mk (blk_below (g := gb293) (o := .cells #[.string ((rd_T42 l0_3 x30_2).f0), .string ((rd_T42 l0_3 x30_2).f1), .int .i64 ((rd_T42 l0_3 x30_2).f2.f0), .int .i64 ((rd_T42 l0_3 x30_2).f2.f1), .slice A292_4 ((rd_T42 l0_3 x30_2).f3).length c292_4] 42 (0, 0)) (by (with_reducible repeat (first | refine blk_drewN ?_ _ | refine blk_drew ?_ | refine blk_alloc ?_ _)); refine blk_put (cs := #[.string ((rd_T42 l0_3 x30_2).f0), .string ((rd_T42 l0_3 x30_2).f1), .int .i64 ((rd_T42 l0_3 x30_2).f2.f0), .int .i64 ((rd_T42 l0_3 x30_2).f2.f1), .slice none 0 0]) ?_ 4 _ rfl; (with_reducible repeat (first | refine blk_drewN ?_ _ | refine blk_drew ?_ | refine blk_alloc ?_ _)); refine blk_put (cs := #[.string ((rd_T42 l0_3 x30_2).f0), .string ((rd_T42 l0_3 x30_2).f1), .int .i64 ((rd_T42 l0_3 x30_2).f2.f0), .int .i64 0, .slice none 0 0]) ?_ 3 _ rfl; (with_reducible repeat (first | refine blk_drewN ?_ _ | refine blk_drew ?_ | refine blk_alloc ?_ _)); refine blk_put (cs := #[.string ((rd_T42 l0_3 x30_2).f0), .string ((rd_T42 l0_3 x30_2).f1), .int .i64 0, .int .i64 0, .slice none 0 0]) ?_ 2 _ rfl; (with_reducible repeat (first | refine blk_drewN ?_ _ | refine blk_drew ?_ | refine blk_alloc ?_ _)); refine blk_put (cs := #[.string ((rd_T42 l0_3 x30_2).f0), .string (⟨#[]⟩ : ByteArray), .int .i64 0, .int .i64 0, .slice none 0 0]) ?_ 1 _ rfl; (with_reducible repeat (first | refine blk_drewN ?_ _ | refine blk_drew ?_ | refine blk_alloc ?_ _)); refine blk_put (cs := #[.string (⟨#[]⟩ : ByteArray), .string (⟨#[]⟩ : ByteArray), .int .i64 0, .int .i64 0, .slice none 0 0]) ?_ 0 _ rfl; exact zk BK293) hb); replace HB := hs w hb; (try clear hb))); go_upto_region 12 with (first | ((with_reducible refine gD 4 rfl ?_); refine bx w 4 #[.string (⟨#[]⟩ : ByteArray), .string (⟨#[]⟩ : ByteArray), .int .i64 0, .int .i64 0, .slice none 0 0] 42 ?_; intro gb293 hg w21 hb BK293 GW293 GE293; clear HB; intro HB; have NB287_293 := nbl BK287 hg; have NB293_287 := nbr BK287 hg; replace BK287 := bb BK287 hb; clear hb hg; have hnb22 := NB293_287.out; have hnc22 := NB287_293.out; obtain ⟨hcz23_0, hcz23_1, hcz23_2, hcz23_3, hcz23_4, hfz23_0, hfz23_1, hfz23_2, hfz23_3, hfz23_4⟩ := cz5 BK293) | (go_at_call 19; (with_reducible refine (interchangeref10_isLabel.calls k2 ((rd_T42 l0_3 x30_2).f0) true _ A18.out).mono ?_); rintro e w24 ⟨rfl, hb⟩; replace BK287 := Aside0.mk (blk_below (g := gb287) (o := .cells #[.string a0_0, .string a0_1, .int .i64 a0_2, .slice (some ad292) l0_3.length c0_3] 24 (0, 0)) (by (with_reducible repeat (first | refine blk_drewN ?_ _ | refine blk_drew ?_ | refine blk_alloc ?_ _)); refine blk_far ?_ NB287_293.out _; (with_reducible repeat (first | refine blk_drewN ?_ _ | refine blk_drew ?_ | refine blk_alloc ?_ _)); refine blk_far ?_ NB287_293.out _; (with_reducible repeat (first | refine blk_drewN ?_ _ | refine blk_drew ?_ | refine blk_alloc ?_ _)); refine blk_far ?_ NB287_293.out _; (with_reducible repeat (first | refine blk_drewN ?_ _ | refine blk_drew ?_ | refine blk_alloc ?_ _)); refine blk_far ?_ NB287_293.out _; (with_reducible repeat (first | refine blk_drewN ?_ _ | refine blk_drew ?_ | refine blk_alloc ?_ _)); refine blk_far ?_ NB287_293.out _; exact zk BK287) hb); replace BK293 := Aside0.mk (blk_below (g := gb293) (o := .cells #[.string ((rd_T42 l0_3 x30_2).f0), .string ((rd_T42 l0_3 x30_2).f1), .int .i64 ((rd_T42 l0_3 x30_2).f2.f0), .int .i64 ((rd_T42 l0_3 x30_2).f2.f1), .slice A292_4 ((rd_T42 l0_3 x30_2).f3).length c292_4] 42 (0, 0)) (by (with_reducible repeat (first | refine blk_drewN ?_ _ | refine blk_drew ?_ | refine blk_alloc ?_ _)); refine blk_put (cs := #[.string ((rd_T42 l0_3 x30_2).f0), .string ((rd_T42 l0_3 x30_2).f1), .int .i64 ((rd_T42 l0_3 x30_2).f2.f0), .int .i64 ((rd_T42 l0_3 x30_2).f2.f1), .slice none 0 0]) ?_ 4 _ rfl; (with_reducible repeat (first | refine blk_drewN ?_ _ | refine blk_drew ?_ | refine blk_alloc ?_ _)); refine blk_put (cs := #[.string ((rd_T42 l0_3 x30_2).f0), .string ((rd_T42 l0_3 x30_2).f1), .int .i64 ((rd_T42 l0_3 x30_2).f2.f0), .int .i64 0, .slice none 0 0]) ?_ 3 _ rfl; (with_reducible repeat (first | refine blk_drewN ?_ _ | refine blk_drew ?_ | refine blk_alloc ?_ _)); refine blk_put (cs := #[.string ((rd_T42 l0_3 x30_2).f0), .string ((rd_T42 l0_3 x30_2).f1), .int .i64 0, .int .i64 0, .slice none 0 0]) ?_ 2 _ rfl; (with_reducible repeat (first | refine blk_drewN ?_ _ | refine blk_drew ?_ | refine blk_alloc ?_ _)); refine blk_put (cs := #[.string ((rd_T42 l0_3 x30_2).f0), .string (⟨#[]⟩ : ByteArray), .int .i64 0, .int .i64 0, .slice none 0 0]) ?_ 1 _ rfl; (with_reducible repeat (first | refine blk_drewN ?_ _ | refine blk_drew ?_ | refine blk_alloc ?_ _)); refine blk_put (cs := #[.string (⟨#[]⟩ : ByteArray), .string (⟨#[]⟩ : ByteArray), .int .i64 0, .int .i64 0, .slice none 0 0]) ?_ 0 _ rfl; exact zk BK293) hb); replace HB := hs w hb; (try clear hb))))
            (try simp only [sq])
            go_cut [40] (fun v40 wc => ∃ (kq : Nat) (x40_19 : Bool), v40 = .bool x40_19 ∧ Aside0 (interchangeref10_CheckAdvice.j2 kq l0_3 (l0_3.length : Int) x30_2 x40_19 a0_0 a0_1 a0_2 l0_3 ((rd_T42 l0_3 x30_2).f0) ((rd_T42 l0_3 x30_2).f1) ((rd_T42 l0_3 x30_2).f2.f0) ((rd_T42 l0_3 x30_2).f2.f1) ((rd_T42 l0_3 x30_2).f3) = some r) ∧ Aside0 (kq ≤ k2) ∧ Aside0 (wc.heap[gb287]? = some (.cells #[.string a0_0, .string a0_1, .int .i64 a0_2, (.slice (some ad292) l0_3.length c0_3)] 24 (0, 0))) ∧ Aside0 (wc.heap[gb293]? = some (.cells #[.string ((rd_T42 l0_3 x30_2).f0), .string ((rd_T42 l0_3 x30_2).f1), .int .i64 ((rd_T42 l0_3 x30_2).f2.f0), .int .i64 ((rd_T42 l0_3 x30_2).f2.f1), (.slice A292_4 ((rd_T42 l0_3 x30_2).f3).length c292_4)] 42 (0, 0))) ∧ Aside0 (Below w.heap.size w wc))
            case first =>
             have H := HC20.out
             clear HC20
             by_cases c25 : x30_2 > 0
             ·rw [if_pos c25] at H
              have c25b0 : decide (0 < x30_2) = true := decide_eq_true c25
              clear c25
              (first | rw [c25b0] | (simp only [i64_w, i32_w]; rw [c25b0]) | skip)
              obtain ⟨ji26, hji26⟩ : ∃ j_ : Int, (wrap64 (x30_2 - 1)) = j_ := ⟨_, rfl⟩
              replace H : (if 0 ≤ (ji26) then (if (ji26) < (l0_3.length : Int) then (interchangeref10_CheckAdvice.j2 k2 l0_3 (l0_3.length : Int) x30_2 (!(Op.bytesLess (((rd_T42 l0_3 (ji26)).f0).toList) (((rd_T42 l0_3 x30_2).f0).toList))) a0_0 a0_1 a0_2 l0_3 ((rd_T42 l0_3 x30_2).f0) ((rd_T42 l0_3 x30_2).f1) ((rd_T42 l0_3 x30_2).f2.f0) ((rd_T42 l0_3 x30_2).f2.f1) ((rd_T42 l0_3 x30_2).f3)) else (none)) else (none)) = some r := by first | (rw [hji26] at H; exact H) | (simp only [hji26] at H ⊢; exact H)
              have hji26w : (IntKind.i64.wrap (x30_2 - 1)) = ji26 := (i64_w _).trans hji26
              by_cases c27 : 0 ≤ (ji26)
              ·rw [if_pos c27] at H
               have c27b0 : decide (0 ≤ (ji26)) = true := decide_eq_true c27
               clear c27
               by_cases c28 : (ji26) < (l0_3.length : Int)
               ·rw [if_pos c28] at H
                have c28b0 : decide ((ji26) < (l0_3.length : Int)) = true := decide_eq_true c28
                clear c28
                have H' := Aside0.mk H
                clear H
                have hnb29 := NB293_287.out
                have hnc29 := NB287_293.out
                obtain ⟨hcz30_0, hcz30_1, hcz30_2, hcz30_3, hcz30_4, hfz30_0, hfz30_1, hfz30_2, hfz30_3, hfz30_4⟩ := cz5 BK293
                obtain ⟨hcz31_0, hcz31_1, hcz31_2, hcz31_3, hfz31_0, hfz31_1, hfz31_2, hfz31_3⟩ := cz4 BK287
                have p295 : 0 ≤ ((ji26) : Int) := of_decide_eq_true (by assumption)
                have q295 : (ji26) < (l0_3.length : Int) := of_decide_eq_true (by assumption)
                obtain ⟨ad295, A295_4, c295_4, e295, hx295_0, hx295_1, hx295_2, hx295_3, hx295_4, hl295_4, hi295_4⟩ := at_T42 HR0_3.out (ji26) p295 q295
                obtain rfl : ad292 = ad295 := (by injection e295)
                replace hx295_0 := hz HB hx295_0
                replace hx295_1 := hz HB hx295_1
                replace hx295_2 := hz HB hx295_2
                replace hx295_3 := hz HB hx295_3
                replace hx295_4 := hz HB hx295_4
                have HR295_4 := Aside0.mk hi295_4
                have HC295_4 := Aside0.mk hl295_4
                clear hi295_4 hl295_4
                replace p295 := eq_true p295
                replace q295 := eq_true q295
                go_wp2
                repeat (go_quiet (fail); try go_wp2)
                go_meet
                case rel => exact ⟨_, (!(Op.bytesLess (((rd_T42 l0_3 (ji26)).f0).toList) (((rd_T42 l0_3 x30_2).f0).toList))), (by first | rfl | (simp; done) | (simp only [← hji26] <;> (first | rfl | simp)) | (simp [*]; done)), H', ⟨by have := HJ1.out; have := HK2.out; first | omega | exact Nat.le_refl _⟩, ⟨(zk BK287)⟩, ⟨(zk BK293)⟩, ⟨(zb w)⟩⟩
               ·rw [if_neg c28] at H
                exact absurd H (by simp)
              ·rw [if_neg c27] at H
               exact absurd H (by simp)
             ·rw [if_neg c25] at H
              have c25b0 : decide (0 < x30_2) = false := decide_eq_false c25
              clear c25
              (first | rw [c25b0] | (simp only [i64_w, i32_w]; rw [c25b0]) | skip)
              have H' := Aside0.mk H
              clear H
              go_wp2
              repeat (go_quiet (fail); try go_wp2)
              go_meet
              case rel => exact ⟨_, (false), ar, H', ⟨by have := HJ1.out; have := HK2.out; first | omega | exact Nat.le_refl _⟩, ⟨(zk BK287)⟩, ⟨(zk BK293)⟩, ⟨(zb w)⟩⟩
            case rest =>
             clear HC20
             try clear c1
             try clear c2
             try clear p2
             try clear q2
             try clear hx2
             try clear c5
             try clear c6
             try clear p6
             try clear c9
             try clear c11
             try clear c12
             try clear c12b0
             try clear c12b1
             try clear c15
             try clear c15b0
             try clear c16
             try clear c16b0
             try clear c17
             try clear c17b0
             try clear c19
             try clear c22
             try clear c25
             try clear c25b0
             try clear c27
             try clear c27b0
             try clear c28
             try clear c28b0
             try clear c29
             try clear p29
             try clear q29
             try clear hx29
             try clear hcz13_0 hcz13_1 hcz13_2 hcz13_3
             try clear hcz14_0 hcz14_1 hcz14_2 hcz14_3
             try clear hcz23_0 hcz23_1 hcz23_2 hcz23_3 hcz23_4
             try clear hcz30_0 hcz30_1 hcz30_2 hcz30_3 hcz30_4
             try clear hcz31_0 hcz31_1 hcz31_2 hcz31_3
             try clear hcz7_0 hcz7_1 hcz7_2 hcz7_3
             try clear hcz8_0 hcz8_1 hcz8_2 hcz8_3
             try clear hfz13_0 hfz13_1 hfz13_2 hfz13_3
             try clear hfz14_0 hfz14_1 hfz14_2 hfz14_3
             try clear hfz23_0 hfz23_1 hfz23_2 hfz23_3 hfz23_4
             try clear hfz30_0 hfz30_1 hfz30_2 hfz30_3 hfz30_4
             try clear hfz31_0 hfz31_1 hfz31_2 hfz31_3
             try clear hfz7_0 hfz7_1 hfz7_2 hfz7_3
             try clear hfz8_0 hfz8_1 hfz8_2 hfz8_3
             try clear hx292_0
             try clear hx292_1
             try clear hx292_2
             try clear hx292_3
             try clear hx292_4
             try clear hx295_0
             try clear hx295_1
             try clear hx295_2
             try clear hx295_3
             try clear hx295_4
             try clear p2
             try clear p292
             try clear p295
             try clear q292
             try clear q295
             obtain ⟨kq, x40_19, rfl, HA, HJ19, BK287, BK293, HB⟩ := hcut
             cases kq with
             | zero => exact absurd HA.out (by simp [interchangeref10_CheckAdvice.j2])
             | succ kj19 =>
              have H := HA.out
              clear HA
              simp only [interchangeref10_CheckAdvice.j2] at H
              by_cases c32 : x40_19 = true
              ·subst c32
               have H1 : (some 8) = some r := by rw [if_pos rfl] at H; exact H
               clear H
               have H := H1
               clear H1
               obtain rfl := Option.some.inj H
               go_wp2
               repeat (go_quiet (fail); try go_wp2)
               go_ret
               exact ⟨by first | rfl | (simp [errW_none, errW_some] <;> rfl) | (simp [*, errW_none, errW_some] <;> rfl), (zb w)⟩
              ·replace c32 := Bool.eq_false_iff.mpr c32
               subst c32
               have H1 : ((interchangeref10_isMass.f kj19 ((rd_T42 l0_3 x30_2).f2.f0) ((rd_T42 l0_3 x30_2).f2.f1) false).bind fun t296 => (if t296 = true then ((interchangeref10_checkContents.f kj19 ((rd_T42 l0_3 x30_2).f3)).bind fun t297 => (if t297 = 0 then (interchangeref10_CheckAdvice.l0 kj19 l0_3 (l0_3.length : Int) (wrap64 (x30_2 + 1)) a0_0 a0_1 a0_2 l0_3) else (some t297))) else (some 1))) = some r := by rw [if_neg (show ¬ (false = true) by decide)] at H; exact H
               clear H
               have H := H1
               clear H1
               replace H := Option.bind_eq_some_iff.mp H
               obtain ⟨t296, A330, H⟩ := H
               try dsimp only at H
               have A33 := Aside0.mk A330
               clear A330
               by_cases c34 : t296 = true
               ·subst c34
                have H1 : ((interchangeref10_checkContents.f kj19 ((rd_T42 l0_3 x30_2).f3)).bind fun t297 => (if t297 = 0 then (interchangeref10_CheckAdvice.l0 kj19 l0_3 (l0_3.length : Int) (wrap64 (x30_2 + 1)) a0_0 a0_1 a0_2 l0_3) else (some t297))) = some r := by rw [if_pos rfl] at H; exact H
                clear H
                have H := H1
                clear H1
                replace H := Option.bind_eq_some_iff.mp H
                obtain ⟨t297, A350, H⟩ := H
                try dsimp only at H
                have A35 := Aside0.mk A350
                clear A350
                by_cases c36 : t297 = 0
                ·rw [if_pos c36] at H
                 have c36b0 : (t297 == 0) = true := beq_iff_eq.mpr c36
                 have c36b1 : (t297 != 0) = false := bne_eq_false_iff_eq.mpr c36
                 clear c36
                 have H' := Aside0.mk H
                 clear H
                 have hnb37 := NB293_287.out
                 have hnc37 := NB287_293.out
                 obtain ⟨hcz38_0, hcz38_1, hcz38_2, hcz38_3, hcz38_4, hfz38_0, hfz38_1, hfz38_2, hfz38_3, hfz38_4⟩ := cz5 BK293
                 go_wp2_with (first | (go_at_call 20; (with_reducible refine (interchangeref10_isMass.calls kj19 ((rd_T42 l0_3 x30_2).f2.f0) ((rd_T42 l0_3 x30_2).f2.f1) false true _ A33.out).mono ?_); rintro e w39 ⟨rfl, hb⟩; replace BK287 := bb BK287 hb; replace BK293 := bb BK293 hb; replace HB := hs w hb; (try clear hb); obtain ⟨hcz40_0, hcz40_1, hcz40_2, hcz40_3, hcz40_4, hfz40_0, hfz40_1, hfz40_2, hfz40_3, hfz40_4⟩ := cz5 BK293) | (go_at_call 21; (with_reducible refine (interchangeref10_checkContents.calls kj19 _ _ ((rd_T42 l0_3 x30_2).f3) t297 _ (zc HR292_4) HC292_4.out A35.out).mono ?_); rintro e w41 ⟨rfl, hb⟩; replace BK287 := bb BK287 hb; replace BK293 := bb BK293 hb; replace HB := hs w hb; (try clear hb)))
                 repeat (go_quiet (first | (go_at_call 20; (with_reducible refine (interchangeref10_isMass.calls kj19 ((rd_T42 l0_3 x30_2).f2.f0) ((rd_T42 l0_3 x30_2).f2.f1) false true _ A33.out).mono ?_); rintro e w39 ⟨rfl, hb⟩; replace BK287 := bb BK287 hb; replace BK293 := bb BK293 hb; replace HB := hs w hb; (try clear hb); obtain ⟨hcz40_0, hcz40_1, hcz40_2, hcz40_3, hcz40_4, hfz40_0, hfz40_1, hfz40_2, hfz40_3, hfz40_4⟩ := cz5 BK293) | (go_at_call 21; (with_reducible refine (interchangeref10_checkContents.calls kj19 _ _ ((rd_T42 l0_3 x30_2).f3) t297 _ (zc HR292_4) HC292_4.out A35.out).mono ?_); rintro e w41 ⟨rfl, hb⟩; replace BK287 := bb BK287 hb; replace BK293 := bb BK293 hb; replace HB := hs w hb; (try clear hb))); try go_wp2_with (first | (go_at_call 20; (with_reducible refine (interchangeref10_isMass.calls kj19 ((rd_T42 l0_3 x30_2).f2.f0) ((rd_T42 l0_3 x30_2).f2.f1) false true _ A33.out).mono ?_); rintro e w39 ⟨rfl, hb⟩; replace BK287 := bb BK287 hb; replace BK293 := bb BK293 hb; replace HB := hs w hb; (try clear hb); obtain ⟨hcz40_0, hcz40_1, hcz40_2, hcz40_3, hcz40_4, hfz40_0, hfz40_1, hfz40_2, hfz40_3, hfz40_4⟩ := cz5 BK293) | (go_at_call 21; (with_reducible refine (interchangeref10_checkContents.calls kj19 _ _ ((rd_T42 l0_3 x30_2).f3) t297 _ (zc HR292_4) HC292_4.out A35.out).mono ?_); rintro e w41 ⟨rfl, hb⟩; replace BK287 := bb BK287 hb; replace BK293 := bb BK293 hb; replace HB := hs w hb; (try clear hb))))
                 go_roundg kj19
                 case measure => have := HJ1.out; have := HK2.out; have := HJ19.out; omega
                 case rel => exact ⟨(wrap64 (x30_2 + 1)), ar, H', ⟨by have := HJ1.out; have := HK2.out; have := HJ19.out; omega⟩, ⟨(zk BK287)⟩, ⟨(zb w)⟩⟩
                ·rw [if_neg c36] at H
                 have c36b0 : (t297 == 0) = false := beq_eq_false_iff_ne.mpr c36
                 have c36b1 : (t297 != 0) = true := bne_iff_ne.mpr c36
                 obtain rfl := Option.some.inj H
                 have hnb42 := NB293_287.out
                 have hnc42 := NB287_293.out
                 obtain ⟨hcz43_0, hcz43_1, hcz43_2, hcz43_3, hcz43_4, hfz43_0, hfz43_1, hfz43_2, hfz43_3, hfz43_4⟩ := cz5 BK293
                 go_wp2_with (first | (go_at_call 20; (with_reducible refine (interchangeref10_isMass.calls kj19 ((rd_T42 l0_3 x30_2).f2.f0) ((rd_T42 l0_3 x30_2).f2.f1) false true _ A33.out).mono ?_); rintro e w44 ⟨rfl, hb⟩; replace BK287 := bb BK287 hb; replace BK293 := bb BK293 hb; replace HB := hs w hb; (try clear hb); obtain ⟨hcz45_0, hcz45_1, hcz45_2, hcz45_3, hcz45_4, hfz45_0, hfz45_1, hfz45_2, hfz45_3, hfz45_4⟩ := cz5 BK293) | (go_at_call 21; (with_reducible refine (interchangeref10_checkContents.calls kj19 _ _ ((rd_T42 l0_3 x30_2).f3) t297 _ (zc HR292_4) HC292_4.out A35.out).mono ?_); rintro e w46 ⟨rfl, hb⟩; replace BK287 := bb BK287 hb; replace BK293 := bb BK293 hb; replace HB := hs w hb; (try clear hb)))
                 repeat (go_quiet (first | (go_at_call 20; (with_reducible refine (interchangeref10_isMass.calls kj19 ((rd_T42 l0_3 x30_2).f2.f0) ((rd_T42 l0_3 x30_2).f2.f1) false true _ A33.out).mono ?_); rintro e w44 ⟨rfl, hb⟩; replace BK287 := bb BK287 hb; replace BK293 := bb BK293 hb; replace HB := hs w hb; (try clear hb); obtain ⟨hcz45_0, hcz45_1, hcz45_2, hcz45_3, hcz45_4, hfz45_0, hfz45_1, hfz45_2, hfz45_3, hfz45_4⟩ := cz5 BK293) | (go_at_call 21; (with_reducible refine (interchangeref10_checkContents.calls kj19 _ _ ((rd_T42 l0_3 x30_2).f3) t297 _ (zc HR292_4) HC292_4.out A35.out).mono ?_); rintro e w46 ⟨rfl, hb⟩; replace BK287 := bb BK287 hb; replace BK293 := bb BK293 hb; replace HB := hs w hb; (try clear hb))); try go_wp2_with (first | (go_at_call 20; (with_reducible refine (interchangeref10_isMass.calls kj19 ((rd_T42 l0_3 x30_2).f2.f0) ((rd_T42 l0_3 x30_2).f2.f1) false true _ A33.out).mono ?_); rintro e w44 ⟨rfl, hb⟩; replace BK287 := bb BK287 hb; replace BK293 := bb BK293 hb; replace HB := hs w hb; (try clear hb); obtain ⟨hcz45_0, hcz45_1, hcz45_2, hcz45_3, hcz45_4, hfz45_0, hfz45_1, hfz45_2, hfz45_3, hfz45_4⟩ := cz5 BK293) | (go_at_call 21; (with_reducible refine (interchangeref10_checkContents.calls kj19 _ _ ((rd_T42 l0_3 x30_2).f3) t297 _ (zc HR292_4) HC292_4.out A35.out).mono ?_); rintro e w46 ⟨rfl, hb⟩; replace BK287 := bb BK287 hb; replace BK293 := bb BK293 hb; replace HB := hs w hb; (try clear hb))))
                 go_ret
                 exact ⟨by first | rfl | (simp [errW_none, errW_some] <;> rfl) | (simp [*, errW_none, errW_some] <;> rfl), (zb w)⟩
               ·replace c34 := Bool.eq_false_iff.mpr c34
                subst c34
                have H1 : (some 1) = some r := by rw [if_neg (show ¬ (false = true) by decide)] at H; exact H
                clear H
                have H := H1
                clear H1
                obtain rfl := Option.some.inj H
                have hnb47 := NB293_287.out
                have hnc47 := NB287_293.out
                obtain ⟨hcz48_0, hcz48_1, hcz48_2, hcz48_3, hcz48_4, hfz48_0, hfz48_1, hfz48_2, hfz48_3, hfz48_4⟩ := cz5 BK293
                go_wp2_with (first | (go_at_call 20; (with_reducible refine (interchangeref10_isMass.calls kj19 ((rd_T42 l0_3 x30_2).f2.f0) ((rd_T42 l0_3 x30_2).f2.f1) false false _ A33.out).mono ?_); rintro e w49 ⟨rfl, hb⟩; replace BK287 := bb BK287 hb; replace BK293 := bb BK293 hb; replace HB := hs w hb; (try clear hb)))
                repeat (go_quiet (first | (go_at_call 20; (with_reducible refine (interchangeref10_isMass.calls kj19 ((rd_T42 l0_3 x30_2).f2.f0) ((rd_T42 l0_3 x30_2).f2.f1) false false _ A33.out).mono ?_); rintro e w49 ⟨rfl, hb⟩; replace BK287 := bb BK287 hb; replace BK293 := bb BK293 hb; replace HB := hs w hb; (try clear hb))); try go_wp2_with (first | (go_at_call 20; (with_reducible refine (interchangeref10_isMass.calls kj19 ((rd_T42 l0_3 x30_2).f2.f0) ((rd_T42 l0_3 x30_2).f2.f1) false false _ A33.out).mono ?_); rintro e w49 ⟨rfl, hb⟩; replace BK287 := bb BK287 hb; replace BK293 := bb BK293 hb; replace HB := hs w hb; (try clear hb))))
                go_ret
                exact ⟨by first | rfl | (simp [errW_none, errW_some] <;> rfl) | (simp [*, errW_none, errW_some] <;> rfl), (zb w)⟩
           ·replace c19 := Bool.eq_false_iff.mpr c19
            subst c19
            have H1 : (some 3) = some r := by rw [if_neg (show ¬ (false = true) by decide)] at H; exact H
            clear H
            have H := H1
            clear H1
            obtain rfl := Option.some.inj H
            have p292 : 0 ≤ (x30_2 : Int) := of_decide_eq_true (by assumption)
            have q292 : x30_2 < (l0_3.length : Int) := of_decide_eq_true (by assumption)
            obtain ⟨ad292, A292_4, c292_4, e292, hx292_0, hx292_1, hx292_2, hx292_3, hx292_4, hl292_4, hi292_4⟩ := at_T42 HR0_3.out x30_2 p292 q292
            cases e292
            replace hx292_0 := hz HB hx292_0
            replace hx292_1 := hz HB hx292_1
            replace hx292_2 := hz HB hx292_2
            replace hx292_3 := hz HB hx292_3
            replace hx292_4 := hz HB hx292_4
            have HR292_4 := Aside0.mk hi292_4
            have HC292_4 := Aside0.mk hl292_4
            clear hi292_4 hl292_4
            replace p292 := eq_true p292
            replace q292 := eq_true q292
            go_wp2_with (first | ((with_reducible refine gD 4 rfl ?_); refine bx w 4 #[.string (⟨#[]⟩ : ByteArray), .string (⟨#[]⟩ : ByteArray), .int .i64 0, .int .i64 0, .slice none 0 0] 42 ?_; intro gb293 hg w50 hb BK293 GW293 GE293; clear HB; intro HB; have NB287_293 := nbl BK287 hg; have NB293_287 := nbr BK287 hg; replace BK287 := bb BK287 hb; clear hb hg; have hnb51 := NB293_287.out; have hnc51 := NB287_293.out; obtain ⟨hcz52_0, hcz52_1, hcz52_2, hcz52_3, hcz52_4, hfz52_0, hfz52_1, hfz52_2, hfz52_3, hfz52_4⟩ := cz5 BK293) | (go_at_call 19; (with_reducible refine (interchangeref10_isLabel.calls k2 ((rd_T42 l0_3 x30_2).f0) false _ A18.out).mono ?_); rintro e w53 ⟨rfl, hb⟩; replace BK287 := Aside0.mk (blk_below (g := gb287) (o := .cells #[.string a0_0, .string a0_1, .int .i64 a0_2, .slice (some ad292) l0_3.length c0_3] 24 (0, 0)) (by (with_reducible repeat (first | refine blk_drewN ?_ _ | refine blk_drew ?_ | refine blk_alloc ?_ _)); refine blk_far ?_ NB287_293.out _; (with_reducible repeat (first | refine blk_drewN ?_ _ | refine blk_drew ?_ | refine blk_alloc ?_ _)); refine blk_far ?_ NB287_293.out _; (with_reducible repeat (first | refine blk_drewN ?_ _ | refine blk_drew ?_ | refine blk_alloc ?_ _)); refine blk_far ?_ NB287_293.out _; (with_reducible repeat (first | refine blk_drewN ?_ _ | refine blk_drew ?_ | refine blk_alloc ?_ _)); refine blk_far ?_ NB287_293.out _; (with_reducible repeat (first | refine blk_drewN ?_ _ | refine blk_drew ?_ | refine blk_alloc ?_ _)); refine blk_far ?_ NB287_293.out _; exact zk BK287) hb); replace BK293 := Aside0.mk (blk_below (g := gb293) (o := .cells #[.string ((rd_T42 l0_3 x30_2).f0), .string ((rd_T42 l0_3 x30_2).f1), .int .i64 ((rd_T42 l0_3 x30_2).f2.f0), .int .i64 ((rd_T42 l0_3 x30_2).f2.f1), .slice A292_4 ((rd_T42 l0_3 x30_2).f3).length c292_4] 42 (0, 0)) (by (with_reducible repeat (first | refine blk_drewN ?_ _ | refine blk_drew ?_ | refine blk_alloc ?_ _)); refine blk_put (cs := #[.string ((rd_T42 l0_3 x30_2).f0), .string ((rd_T42 l0_3 x30_2).f1), .int .i64 ((rd_T42 l0_3 x30_2).f2.f0), .int .i64 ((rd_T42 l0_3 x30_2).f2.f1), .slice none 0 0]) ?_ 4 _ rfl; (with_reducible repeat (first | refine blk_drewN ?_ _ | refine blk_drew ?_ | refine blk_alloc ?_ _)); refine blk_put (cs := #[.string ((rd_T42 l0_3 x30_2).f0), .string ((rd_T42 l0_3 x30_2).f1), .int .i64 ((rd_T42 l0_3 x30_2).f2.f0), .int .i64 0, .slice none 0 0]) ?_ 3 _ rfl; (with_reducible repeat (first | refine blk_drewN ?_ _ | refine blk_drew ?_ | refine blk_alloc ?_ _)); refine blk_put (cs := #[.string ((rd_T42 l0_3 x30_2).f0), .string ((rd_T42 l0_3 x30_2).f1), .int .i64 0, .int .i64 0, .slice none 0 0]) ?_ 2 _ rfl; (with_reducible repeat (first | refine blk_drewN ?_ _ | refine blk_drew ?_ | refine blk_alloc ?_ _)); refine blk_put (cs := #[.string ((rd_T42 l0_3 x30_2).f0), .string (⟨#[]⟩ : ByteArray), .int .i64 0, .int .i64 0, .slice none 0 0]) ?_ 1 _ rfl; (with_reducible repeat (first | refine blk_drewN ?_ _ | refine blk_drew ?_ | refine blk_alloc ?_ _)); refine blk_put (cs := #[.string (⟨#[]⟩ : ByteArray), .string (⟨#[]⟩ : ByteArray), .int .i64 0, .int .i64 0, .slice none 0 0]) ?_ 0 _ rfl; exact zk BK293) hb); replace HB := hs w hb; (try clear hb)))
            repeat (go_quiet (first | ((with_reducible refine gD 4 rfl ?_); refine bx w 4 #[.string (⟨#[]⟩ : ByteArray), .string (⟨#[]⟩ : ByteArray), .int .i64 0, .int .i64 0, .slice none 0 0] 42 ?_; intro gb293 hg w50 hb BK293 GW293 GE293; clear HB; intro HB; have NB287_293 := nbl BK287 hg; have NB293_287 := nbr BK287 hg; replace BK287 := bb BK287 hb; clear hb hg; have hnb51 := NB293_287.out; have hnc51 := NB287_293.out; obtain ⟨hcz52_0, hcz52_1, hcz52_2, hcz52_3, hcz52_4, hfz52_0, hfz52_1, hfz52_2, hfz52_3, hfz52_4⟩ := cz5 BK293) | (go_at_call 19; (with_reducible refine (interchangeref10_isLabel.calls k2 ((rd_T42 l0_3 x30_2).f0) false _ A18.out).mono ?_); rintro e w53 ⟨rfl, hb⟩; replace BK287 := Aside0.mk (blk_below (g := gb287) (o := .cells #[.string a0_0, .string a0_1, .int .i64 a0_2, .slice (some ad292) l0_3.length c0_3] 24 (0, 0)) (by (with_reducible repeat (first | refine blk_drewN ?_ _ | refine blk_drew ?_ | refine blk_alloc ?_ _)); refine blk_far ?_ NB287_293.out _; (with_reducible repeat (first | refine blk_drewN ?_ _ | refine blk_drew ?_ | refine blk_alloc ?_ _)); refine blk_far ?_ NB287_293.out _; (with_reducible repeat (first | refine blk_drewN ?_ _ | refine blk_drew ?_ | refine blk_alloc ?_ _)); refine blk_far ?_ NB287_293.out _; (with_reducible repeat (first | refine blk_drewN ?_ _ | refine blk_drew ?_ | refine blk_alloc ?_ _)); refine blk_far ?_ NB287_293.out _; (with_reducible repeat (first | refine blk_drewN ?_ _ | refine blk_drew ?_ | refine blk_alloc ?_ _)); refine blk_far ?_ NB287_293.out _; exact zk BK287) hb); replace BK293 := Aside0.mk (blk_below (g := gb293) (o := .cells #[.string ((rd_T42 l0_3 x30_2).f0), .string ((rd_T42 l0_3 x30_2).f1), .int .i64 ((rd_T42 l0_3 x30_2).f2.f0), .int .i64 ((rd_T42 l0_3 x30_2).f2.f1), .slice A292_4 ((rd_T42 l0_3 x30_2).f3).length c292_4] 42 (0, 0)) (by (with_reducible repeat (first | refine blk_drewN ?_ _ | refine blk_drew ?_ | refine blk_alloc ?_ _)); refine blk_put (cs := #[.string ((rd_T42 l0_3 x30_2).f0), .string ((rd_T42 l0_3 x30_2).f1), .int .i64 ((rd_T42 l0_3 x30_2).f2.f0), .int .i64 ((rd_T42 l0_3 x30_2).f2.f1), .slice none 0 0]) ?_ 4 _ rfl; (with_reducible repeat (first | refine blk_drewN ?_ _ | refine blk_drew ?_ | refine blk_alloc ?_ _)); refine blk_put (cs := #[.string ((rd_T42 l0_3 x30_2).f0), .string ((rd_T42 l0_3 x30_2).f1), .int .i64 ((rd_T42 l0_3 x30_2).f2.f0), .int .i64 0, .slice none 0 0]) ?_ 3 _ rfl; (with_reducible repeat (first | refine blk_drewN ?_ _ | refine blk_drew ?_ | refine blk_alloc ?_ _)); refine blk_put (cs := #[.string ((rd_T42 l0_3 x30_2).f0), .string ((rd_T42 l0_3 x30_2).f1), .int .i64 0, .int .i64 0, .slice none 0 0]) ?_ 2 _ rfl; (with_reducible repeat (first | refine blk_drewN ?_ _ | refine blk_drew ?_ | refine blk_alloc ?_ _)); refine blk_put (cs := #[.string ((rd_T42 l0_3 x30_2).f0), .string (⟨#[]⟩ : ByteArray), .int .i64 0, .int .i64 0, .slice none 0 0]) ?_ 1 _ rfl; (with_reducible repeat (first | refine blk_drewN ?_ _ | refine blk_drew ?_ | refine blk_alloc ?_ _)); refine blk_put (cs := #[.string (⟨#[]⟩ : ByteArray), .string (⟨#[]⟩ : ByteArray), .int .i64 0, .int .i64 0, .slice none 0 0]) ?_ 0 _ rfl; exact zk BK293) hb); replace HB := hs w hb; (try clear hb))); try go_wp2_with (first | ((with_reducible refine gD 4 rfl ?_); refine bx w 4 #[.string (⟨#[]⟩ : ByteArray), .string (⟨#[]⟩ : ByteArray), .int .i64 0, .int .i64 0, .slice none 0 0] 42 ?_; intro gb293 hg w50 hb BK293 GW293 GE293; clear HB; intro HB; have NB287_293 := nbl BK287 hg; have NB293_287 := nbr BK287 hg; replace BK287 := bb BK287 hb; clear hb hg; have hnb51 := NB293_287.out; have hnc51 := NB287_293.out; obtain ⟨hcz52_0, hcz52_1, hcz52_2, hcz52_3, hcz52_4, hfz52_0, hfz52_1, hfz52_2, hfz52_3, hfz52_4⟩ := cz5 BK293) | (go_at_call 19; (with_reducible refine (interchangeref10_isLabel.calls k2 ((rd_T42 l0_3 x30_2).f0) false _ A18.out).mono ?_); rintro e w53 ⟨rfl, hb⟩; replace BK287 := Aside0.mk (blk_below (g := gb287) (o := .cells #[.string a0_0, .string a0_1, .int .i64 a0_2, .slice (some ad292) l0_3.length c0_3] 24 (0, 0)) (by (with_reducible repeat (first | refine blk_drewN ?_ _ | refine blk_drew ?_ | refine blk_alloc ?_ _)); refine blk_far ?_ NB287_293.out _; (with_reducible repeat (first | refine blk_drewN ?_ _ | refine blk_drew ?_ | refine blk_alloc ?_ _)); refine blk_far ?_ NB287_293.out _; (with_reducible repeat (first | refine blk_drewN ?_ _ | refine blk_drew ?_ | refine blk_alloc ?_ _)); refine blk_far ?_ NB287_293.out _; (with_reducible repeat (first | refine blk_drewN ?_ _ | refine blk_drew ?_ | refine blk_alloc ?_ _)); refine blk_far ?_ NB287_293.out _; (with_reducible repeat (first | refine blk_drewN ?_ _ | refine blk_drew ?_ | refine blk_alloc ?_ _)); refine blk_far ?_ NB287_293.out _; exact zk BK287) hb); replace BK293 := Aside0.mk (blk_below (g := gb293) (o := .cells #[.string ((rd_T42 l0_3 x30_2).f0), .string ((rd_T42 l0_3 x30_2).f1), .int .i64 ((rd_T42 l0_3 x30_2).f2.f0), .int .i64 ((rd_T42 l0_3 x30_2).f2.f1), .slice A292_4 ((rd_T42 l0_3 x30_2).f3).length c292_4] 42 (0, 0)) (by (with_reducible repeat (first | refine blk_drewN ?_ _ | refine blk_drew ?_ | refine blk_alloc ?_ _)); refine blk_put (cs := #[.string ((rd_T42 l0_3 x30_2).f0), .string ((rd_T42 l0_3 x30_2).f1), .int .i64 ((rd_T42 l0_3 x30_2).f2.f0), .int .i64 ((rd_T42 l0_3 x30_2).f2.f1), .slice none 0 0]) ?_ 4 _ rfl; (with_reducible repeat (first | refine blk_drewN ?_ _ | refine blk_drew ?_ | refine blk_alloc ?_ _)); refine blk_put (cs := #[.string ((rd_T42 l0_3 x30_2).f0), .string ((rd_T42 l0_3 x30_2).f1), .int .i64 ((rd_T42 l0_3 x30_2).f2.f0), .int .i64 0, .slice none 0 0]) ?_ 3 _ rfl; (with_reducible repeat (first | refine blk_drewN ?_ _ | refine blk_drew ?_ | refine blk_alloc ?_ _)); refine blk_put (cs := #[.string ((rd_T42 l0_3 x30_2).f0), .string ((rd_T42 l0_3 x30_2).f1), .int .i64 0, .int .i64 0, .slice none 0 0]) ?_ 2 _ rfl; (with_reducible repeat (first | refine blk_drewN ?_ _ | refine blk_drew ?_ | refine blk_alloc ?_ _)); refine blk_put (cs := #[.string ((rd_T42 l0_3 x30_2).f0), .string (⟨#[]⟩ : ByteArray), .int .i64 0, .int .i64 0, .slice none 0 0]) ?_ 1 _ rfl; (with_reducible repeat (first | refine blk_drewN ?_ _ | refine blk_drew ?_ | refine blk_alloc ?_ _)); refine blk_put (cs := #[.string (⟨#[]⟩ : ByteArray), .string (⟨#[]⟩ : ByteArray), .int .i64 0, .int .i64 0, .slice none 0 0]) ?_ 0 _ rfl; exact zk BK293) hb); replace HB := hs w hb; (try clear hb))))
            go_ret
            exact ⟨by first | rfl | (simp [errW_none, errW_some] <;> rfl) | (simp [*, errW_none, errW_some] <;> rfl), (zb w)⟩
          ·rw [if_neg c17] at H
           exact absurd H (by simp)
         ·rw [if_neg c16] at H
          exact absurd H (by simp)
        ·rw [if_neg c15] at H
         have c15b0 : decide (x30_2 < (l0_3.length : Int)) = false := decide_eq_false c15
         clear c15
         replace H := Option.bind_eq_some_iff.mp H
         obtain ⟨t291, A540, H⟩ := H
         try dsimp only at H
         have A54 := Aside0.mk A540
         clear A540
         obtain rfl := Option.some.inj H
         obtain ⟨hcz55_0, hcz55_1, hcz55_2, hcz55_3, hfz55_0, hfz55_1, hfz55_2, hfz55_3⟩ := cz4 BK287
         go_wp2_with (first | (go_at_call 22; (with_reducible refine (interchangeref10_nests.calls k2 _ _ l0_3 t291 _ (zc HR0_3) HC0_3.out A54.out).mono ?_); rintro e w56 ⟨rfl, hb⟩; replace BK287 := bb BK287 hb; replace HB := hs w hb; (try clear hb)))
         repeat (go_quiet (first | (go_at_call 22; (with_reducible refine (interchangeref10_nests.calls k2 _ _ l0_3 t291 _ (zc HR0_3) HC0_3.out A54.out).mono ?_); rintro e w56 ⟨rfl, hb⟩; replace BK287 := bb BK287 hb; replace HB := hs w hb; (try clear hb))); try go_wp2_with (first | (go_at_call 22; (with_reducible refine (interchangeref10_nests.calls k2 _ _ l0_3 t291 _ (zc HR0_3) HC0_3.out A54.out).mono ?_); rintro e w56 ⟨rfl, hb⟩; replace BK287 := bb BK287 hb; replace HB := hs w hb; (try clear hb))))
         go_ret
         exact ⟨by first | rfl | (simp [errW_none, errW_some] <;> rfl) | (simp [*, errW_none, errW_some] <;> rfl), (zb w)⟩
    ·replace c11 := Bool.eq_false_iff.mpr c11
     subst c11
     have H1 : (some 1) = some r := by rw [if_neg (show ¬ (false = true) by decide)] at H; exact H
     clear H
     have H := H1
     clear H1
     obtain rfl := Option.some.inj H
     obtain ⟨hcz57_0, hcz57_1, hcz57_2, hcz57_3, hfz57_0, hfz57_1, hfz57_2, hfz57_3⟩ := cz4 BK287
     go_wp2_with (first | (go_at_call 18; (with_reducible refine (interchangeref1_IsDay.calls a0_2 false _ A10.out).mono ?_); rintro e w' ⟨rfl, ⟨nd, rfl⟩⟩; (try first | exact ⟨rfl, _, World.drewN_drewN _ _ _⟩ | exact ⟨rfl, _, Eq.trans (World.drewN_drewN _ _ _) (congrArg (World.drewN _) (Nat.add_assoc _ _ _))⟩)))
     repeat (go_quiet (first | (go_at_call 18; (with_reducible refine (interchangeref1_IsDay.calls a0_2 false _ A10.out).mono ?_); rintro e w' ⟨rfl, ⟨nd, rfl⟩⟩; (try first | exact ⟨rfl, _, World.drewN_drewN _ _ _⟩ | exact ⟨rfl, _, Eq.trans (World.drewN_drewN _ _ _) (congrArg (World.drewN _) (Nat.add_assoc _ _ _))⟩))); try go_wp2_with (first | (go_at_call 18; (with_reducible refine (interchangeref1_IsDay.calls a0_2 false _ A10.out).mono ?_); rintro e w' ⟨rfl, ⟨nd, rfl⟩⟩; (try first | exact ⟨rfl, _, World.drewN_drewN _ _ _⟩ | exact ⟨rfl, _, Eq.trans (World.drewN_drewN _ _ _) (congrArg (World.drewN _) (Nat.add_assoc _ _ _))⟩))))
     go_ret
     exact ⟨by first | rfl | (simp [errW_none, errW_some] <;> rfl) | (simp [*, errW_none, errW_some] <;> rfl), (zb w)⟩

/-! ### interchangeref10_labels: function 13 -/
def interchangeref10_labels.l0 : Nat → List (S42) → List ByteArray → List Int → Int → Int → Option (List ByteArray)
 | 0, _, _, _, _, _ => none
 | k + 1, x0, x5, x8, x9, x10 => if x10 < x9 then (if 0 ≤ x10 then (if x10 < (x8.length : Int) then (if 0 ≤ (rd x8 x10) then (if (rd x8 x10) < (x0.length : Int) then (if x5.length < 8796093022208 then (interchangeref10_labels.l0 k x0 (x5 ++ [(rd_T42 x0 (rd x8 x10)).f0]) x8 x9 (wrap64 (x10 + 1))) else (none)) else (none)) else (none)) else (none)) else (none)) else (some x5)
def interchangeref10_labels.f (k : Nat) (l0 : List (S42)) (l1 : List Int) : Option (List ByteArray) := interchangeref10_labels.l0 k l0 ([] : List ByteArray) l1 (l1.length : Int) 0
theorem interchangeref10_labels.mono_l : ∀ k, (∀ y0 y1 y2 y3 y4, LeO (interchangeref10_labels.l0 k y0 y1 y2 y3 y4) (interchangeref10_labels.l0 (k + 1) y0 y1 y2 y3 y4))
 | 0 => fun _ _ _ _ _ r h => by simp [interchangeref10_labels.l0] at h
 | k + 1 => by
  have ih0 := interchangeref10_labels.mono_l k
  ·intro y0 y1 y2 y3 y4
   unfold interchangeref10_labels.l0
   repeat' first | with_reducible first | exact ih0 _ _ _ _ _ | exact lr _ | exact ln _ | refine li ?_ ?_ | refine lb ?_ fun _ => ?_ | exact ih0 _ _ _ _ _ | exact ln _ | refine li ?_ ?_ | refine lb ?_ fun _ => ?_
theorem interchangeref10_labels.mono : ∀ a0 a1 k, LeO (interchangeref10_labels.f k a0 a1) (interchangeref10_labels.f (k + 1) a0 a1) := by
 intro a0 a1 k
 have ih0 := interchangeref10_labels.mono_l k
 unfold interchangeref10_labels.f
 repeat' first | with_reducible first | exact ih0 _ _ _ _ _ | exact lr _ | exact ln _ | refine li ?_ ?_ | refine lb ?_ fun _ => ?_ | exact ih0 _ _ _ _ _ | exact ln _ | refine li ?_ ?_ | refine lb ?_ fun _ => ?_
set_option maxHeartbeats 8000000 in
set_option maxRecDepth 100000 in
theorem interchangeref10_labels.calls (k : Nat) (A0 : Option Addr) (c0 : Nat) (l0 : List (S42)) (A1 : Option Addr) (c1 : Nat) (l1 : List Int) (r : List ByteArray) (w : World) (hr0 : Kd.C k42 w A0 l0.length l0) (hc0 : l0.length ≤ c0) (hr1 : Kd.C (Kd.int .i64) w A1 l1.length l1) (hc1 : l1.length ≤ c1) (h : interchangeref10_labels.f k l0 l1 = some r) :
  Calls Tryz.prog 13 #[.slice A0 l0.length c0, .slice A1 l1.length c1] w fun e w' => ∃ v0_ : Value, e = .returned (v0_) ∧ Kd.R Kd.string 9 w' w.heap.size (fun _ => True) v0_ r ∧ Below w.heap.size w w' := by
 have HR0 := Aside0.mk hr0
 have HC0 := Aside0.mk hc0
 clear hr0 hc0
 have HR1 := Aside0.mk hr1
 have HC1 := Aside0.mk hc1
 clear hr1 hc1
 have HB := Aside0.mk (Below.refl w.heap.size w)
 have H := h
 unfold interchangeref10_labels.f at H
 clear h
 have H' := Aside0.mk H
 clear H
 go_enter Tryz.func13, Tryz.ntmps13
 go_wp2
 try simp only [sq]
 go_loopg [5, 10] k (fun kq v5 v10 w' => ∃ (x5_1 : List ByteArray) (x10_1 : Int), v10 = .int .i64 x10_1 ∧ Aside0 (interchangeref10_labels.l0 kq l0 x5_1 l1 (l1.length : Int) x10_1 = some r) ∧ Aside0 (kq ≤ k) ∧ Aside0 (Kd.R Kd.string 9 w' w.heap.size (fun _ => True) v5 x5_1) ∧ Aside0 (Below w.heap.size w w'))
 case atStart => exact ⟨(([] : List ByteArray)), (0), ar, H', ⟨Nat.le_refl _⟩, ⟨by first | exact Kd.R_nil _ _ _ _ _ | exact Kd.N_nil _ _ _ _ _ | exact Kd.V_nil _ _ _ _ _ | exact Kd.Q_nil _ _ _ _ _ | exact Kd.S_nil _ _ _ _ _⟩, ⟨(zb w)⟩⟩
 case round =>
  clear H'
  try clear c1
  try clear p2
  obtain ⟨x5_1, x10_1, rfl, HA, HK1, HO_5, HB⟩ := hrel
  cases gk with
  | zero => exact absurd HA.out (by simp [interchangeref10_labels.l0])
  | succ k1 =>
   have H := HA.out
   clear HA
   simp only [interchangeref10_labels.l0] at H
   by_cases c3 : x10_1 < (l1.length : Int)
   ·rw [if_pos c3] at H
    have c3b0 : decide (x10_1 < (l1.length : Int)) = true := decide_eq_true c3
    clear c3
    by_cases c4 : 0 ≤ x10_1
    ·rw [if_pos c4] at H
     have c4b0 : decide (0 ≤ x10_1) = true := decide_eq_true c4
     clear c4
     by_cases c5 : x10_1 < (l1.length : Int)
     ·rw [if_pos c5] at H
      have c5b0 : decide (x10_1 < (l1.length : Int)) = true := decide_eq_true c5
      clear c5
      by_cases c6 : 0 ≤ (rd l1 x10_1)
      ·rw [if_pos c6] at H
       have c6b0 : decide (0 ≤ (rd l1 x10_1)) = true := decide_eq_true c6
       clear c6
       by_cases c7 : (rd l1 x10_1) < (l0.length : Int)
       ·rw [if_pos c7] at H
        have c7b0 : decide ((rd l1 x10_1) < (l0.length : Int)) = true := decide_eq_true c7
        clear c7
        by_cases c8 : x5_1.length < 8796093022208
        ·rw [if_pos c8] at H
         have LMc8 := Aside0.mk c8
         clear c8
         obtain ⟨y300, hy300⟩ : ∃ y_ : List ByteArray, y_ = (x5_1 ++ [(rd_T42 l0 (rd l1 x10_1)).f0]) := ⟨_, rfl⟩
         replace H : (interchangeref10_labels.l0 k1 l0 y300 l1 (l1.length : Int) (wrap64 (x10_1 + 1))) = some r := by first | (rw [hy300]; with_reducible exact H) | (have H2_ := (Option.bind_some _ _).symm.trans H; rw [hy300]; with_reducible exact H2_) | (have H2_ := (Option.bind_some _ _).symm.trans H; with_reducible exact H2_) | with_reducible exact H | (rw [hy300]; exact H) | exact H
         have Ny300 := Aside0.mk hy300
         clear hy300
         have H' := Aside0.mk H
         clear H
         have p298 : 0 ≤ (x10_1 : Int) := of_decide_eq_true (by assumption)
         have q298 : x10_1 < (l1.length : Int) := of_decide_eq_true (by assumption)
         obtain ⟨ad298, e298, hx298_0⟩ := Kd.at_int HR1.out x10_1 p298 q298
         cases e298
         replace hx298_0 := hz HB hx298_0
         replace p298 := eq_true p298
         replace q298 := eq_true q298
         have p299 : 0 ≤ ((rd l1 x10_1) : Int) := of_decide_eq_true (by assumption)
         have q299 : (rd l1 x10_1) < (l0.length : Int) := of_decide_eq_true (by assumption)
         obtain ⟨ad299, A299_4, c299_4, e299, hx299_0, hx299_1, hx299_2, hx299_3, hx299_4, hl299_4, hi299_4⟩ := at_T42 HR0.out (rd l1 x10_1) p299 q299
         cases e299
         replace hx299_0 := hz HB hx299_0
         replace hx299_1 := hz HB hx299_1
         replace hx299_2 := hz HB hx299_2
         replace hx299_3 := hz HB hx299_3
         replace hx299_4 := hz HB hx299_4
         have HR299_4 := Aside0.mk hi299_4
         have HC299_4 := Aside0.mk hl299_4
         clear hi299_4 hl299_4
         replace p299 := eq_true p299
         replace q299 := eq_true q299
         go_wp2_with (first | ((with_reducible refine gate_builtin (b := .append) (xs := #[.tmp 14, .tmp 20]) rfl ?_); at_builtin; refine Kd.R_append Kd.string (w0 := w) w.heap.size rfl (.tmp 14) (.tmp 20) 25 9 (.string ⟨#[]⟩) 16 rfl Tryz.underlying25 info9 rfl (by decide) (by omega) u5 x5_1 ((rd_T42 l0 (rd l1 x10_1)).f0) [.string ((rd_T42 l0 (rd l1 x10_1)).f0)] (fun _ => True) (fun _ => False) rfl rfl ?aP (fun _ hk => hk.elim) ?aF ?aO ?aB ?aS ?aL ?_; (case aP => exact rfl); (case aB => exact (zb w)); (case aF => exact (fun _ _ => trivial)); (case aO => exact (zo HO_5)); (case aS => exact (below_size (zb w))); (case aL => have := LMc8.out; omega); intro v301 w9 ho hb hg hat; rw [← Ny300.out] at ho; replace HB := Aside0.mk (hb); have HO302 := Aside0.mk (ho); clear HO_5; clear ho hb hg hat))
         go_roundg k1
         case measure => have := HK1.out; omega
         case rel => exact ⟨(y300), (wrap64 (x10_1 + 1)), ar, H', ⟨by have := HK1.out; omega⟩, ⟨zo HO302⟩, ⟨(zb w)⟩⟩
        ·rw [if_neg c8] at H
         exact absurd H (by simp)
       ·rw [if_neg c7] at H
        exact absurd H (by simp)
      ·rw [if_neg c6] at H
       exact absurd H (by simp)
     ·rw [if_neg c5] at H
      exact absurd H (by simp)
    ·rw [if_neg c4] at H
     exact absurd H (by simp)
   ·rw [if_neg c3] at H
    have c3b0 : decide (x10_1 < (l1.length : Int)) = false := decide_eq_false c3
    clear c3
    obtain rfl := Option.some.inj H
    go_wp2
    go_ret
    exact ⟨_, by first | rfl | (simp [errW_none, errW_some] <;> rfl) | (simp [*, errW_none, errW_some] <;> rfl), by (with_reducible repeat (first | apply Kd.R_alloc | apply Kd.R_drewN | apply Kd.R_drew)); exact HO_5.out, (zb w)⟩

end Go.Proofs.YthgefhnolmloiaaGreatDoor.P3
