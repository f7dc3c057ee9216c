-- Made by a program of this session out of the translation (wip/pp.py): functions, contracts.
import Derived.Test.YthgefhnolmloiaaGreatDoorP3x0
import Derived.Test.YthgefhnolmloiaaGreatDoorP3x1
namespace Go.Proofs.YthgefhnolmloiaaGreatDoor.P3
open Go.RowKit Go.Proofs.YthgefhnolmloiaaGreatDoorW.PrintWords Go.Proofs.YthgefhnolmloiaaGreatDoorW.PrintLast Go.Proofs.YthgefhnolmloiaaGreatDoorW.PrintMore
attribute [local go_sem] max2_int min2_int max_two min_two max_three min_three max_four min_four   -- for this text's walks alone
set_option linter.unusedVariables false
set_option linter.unusedSimpArgs false

/-! ### interchangeref1_isNumber: function 59 -/
def interchangeref1_isNumber.f (k : Nat) (a0 : Int) (a1 : ByteArray) : Option (Bool) := if a0 = 1 then (none) else (if a0 = 2 then (none) else (if a0 = 3 then ((interchangeref1_isDigits.f k a1).bind fun t105 => (if t105 = true then (if (a1.size : Int) = 18 then ((interchangeref1_threes.f k a1).bind fun t106 => (some t106)) else (some false)) else (some false))) else (none)))
theorem interchangeref1_isNumber.mono : ∀ a0 a1 k, LeO (interchangeref1_isNumber.f k a0 a1) (interchangeref1_isNumber.f (k + 1) a0 a1) := by
 intro a0 a1 k
 unfold interchangeref1_isNumber.f
 repeat' first | with_reducible first | exact interchangeref1_isDigits.mono _ _ | exact interchangeref1_threes.mono _ _ | exact lr _ | exact ln _ | refine li ?_ ?_ | refine lb ?_ fun _ => ?_ | exact interchangeref1_isDigits.mono _ _ | exact interchangeref1_threes.mono _ _ | exact ln _ | refine li ?_ ?_ | refine lb ?_ fun _ => ?_
set_option maxHeartbeats 8000000 in
set_option maxRecDepth 100000 in
theorem interchangeref1_isNumber.calls (k : Nat) (a0 : Int) (a1 : ByteArray) (r : Bool) (w : World) (h : interchangeref1_isNumber.f k a0 a1 = some r) :
  Calls Tryz.prog 59 #[.int .i64 a0, .string a1] w fun e w' => e = .returned (.bool r) ∧ Below w.heap.size w w' := by
 have HB := Aside0.mk (Below.refl w.heap.size w)
 have H := h
 unfold interchangeref1_isNumber.f at H
 clear h
 by_cases c3 : a0 = 1
 ·rw [if_pos c3] at H
  exact absurd H (by simp)
 ·rw [if_neg c3] at H
  have c3b0 : (a0 == 1) = false := beq_eq_false_iff_ne.mpr c3
  have c3b1 : (a0 != 1) = true := bne_iff_ne.mpr c3
  by_cases c4 : a0 = 2
  ·rw [if_pos c4] at H
   exact absurd H (by simp)
  ·rw [if_neg c4] at H
   have c4b0 : (a0 == 2) = false := beq_eq_false_iff_ne.mpr c4
   have c4b1 : (a0 != 2) = true := bne_iff_ne.mpr c4
   by_cases c5 : a0 = 3
   ·rw [if_pos c5] at H
    have c5b0 : (a0 == 3) = true := beq_iff_eq.mpr c5
    have c5b1 : (a0 != 3) = false := bne_eq_false_iff_eq.mpr c5
    clear c5
    replace H := Option.bind_eq_some_iff.mp H
    obtain ⟨t105, A60, H⟩ := H
    try dsimp only at H
    have A6 := Aside0.mk A60
    clear A60
    by_cases c7 : t105 = true
    ·subst c7
     have H1 : (if (a1.size : Int) = 18 then ((interchangeref1_threes.f k a1).bind fun t106 => (some t106)) else (some false)) = some r := by rw [if_pos rfl] at H; exact H
     clear H
     have H := H1
     clear H1
     by_cases c8 : (a1.size : Int) = 18
     ·rw [if_pos c8] at H
      have c8b0 : ((a1.size : Int) == 18) = true := beq_iff_eq.mpr c8
      have c8b1 : ((a1.size : Int) != 18) = false := bne_eq_false_iff_eq.mpr c8
      clear c8
      replace H := Option.bind_eq_some_iff.mp H
      obtain ⟨t106, A90, H⟩ := H
      try dsimp only at H
      have A9 := Aside0.mk A90
      clear A90
      obtain rfl := Option.some.inj H
      go_enter Tryz.func59, Tryz.ntmps59
      go_wp2_with (first | ((with_reducible refine gC 88 rfl ?_); refine gl_ 44 Tryz.func88 #[.string a1] ?_; (with_reducible refine (interchangeref1_isDigits.calls k a1 true _ A6.out).mono ?_); rintro e w' ⟨rfl, ⟨nd, rfl⟩⟩; refine ⟨_, rfl, ?_⟩) | (go_at_call 89; (with_reducible refine (interchangeref1_threes.calls k a1 t106 _ A9.out).mono ?_); rintro e w' ⟨rfl, ⟨nd, rfl⟩⟩))
      go_ret
      exact ⟨by first | rfl | (simp [errW_none, errW_some] <;> rfl) | (simp [*, errW_none, errW_some] <;> rfl), (zb w)⟩
     ·rw [if_neg c8] at H
      have c8b0 : ((a1.size : Int) == 18) = false := beq_eq_false_iff_ne.mpr c8
      have c8b1 : ((a1.size : Int) != 18) = true := bne_iff_ne.mpr c8
      obtain rfl := Option.some.inj H
      go_enter Tryz.func59, Tryz.ntmps59
      go_wp2_with (first | ((with_reducible refine gC 88 rfl ?_); refine gl_ 44 Tryz.func88 #[.string a1] ?_; (with_reducible refine (interchangeref1_isDigits.calls k a1 true _ A6.out).mono ?_); rintro e w' ⟨rfl, ⟨nd, rfl⟩⟩; refine ⟨_, rfl, ?_⟩))
      go_ret
      exact ⟨by first | rfl | (simp [errW_none, errW_some] <;> rfl) | (simp [*, errW_none, errW_some] <;> rfl), (zb w)⟩
    ·replace c7 := Bool.eq_false_iff.mpr c7
     subst c7
     have H1 : (some false) = some r := by rw [if_neg (show ¬ (false = true) by decide)] at H; exact H
     clear H
     have H := H1
     clear H1
     obtain rfl := Option.some.inj H
     go_enter Tryz.func59, Tryz.ntmps59
     go_wp2_with (first | ((with_reducible refine gC 88 rfl ?_); refine gl_ 44 Tryz.func88 #[.string a1] ?_; (with_reducible refine (interchangeref1_isDigits.calls k a1 false _ A6.out).mono ?_); rintro e w' ⟨rfl, ⟨nd, rfl⟩⟩; refine ⟨_, rfl, ?_⟩))
     go_ret
     exact ⟨by first | rfl | (simp [errW_none, errW_some] <;> rfl) | (simp [*, errW_none, errW_some] <;> rfl), (zb w)⟩
   ·rw [if_neg c5] at H
    exact absurd H (by simp)

/-! ### interchangeref1_IsNumber: function 38 -/
def interchangeref1_IsNumber.f (k : Nat) (a0 : Int) (a1 : ByteArray) : Option (Bool × Int) := (interchangeref1_isKind.f a0).bind fun t107 => (if t107 = true then ((interchangeref1_isNumber.f k a0 a1).bind fun t108 => (some (t108, 0))) else (some (false, 4)))
theorem interchangeref1_IsNumber.mono : ∀ a0 a1 k, LeO (interchangeref1_IsNumber.f k a0 a1) (interchangeref1_IsNumber.f (k + 1) a0 a1) := by
 intro a0 a1 k
 unfold interchangeref1_IsNumber.f
 repeat' first | with_reducible first | exact interchangeref1_isNumber.mono _ _ _ | exact lr _ | exact ln _ | refine li ?_ ?_ | refine lb ?_ fun _ => ?_ | exact interchangeref1_isNumber.mono _ _ _ | exact ln _ | refine li ?_ ?_ | refine lb ?_ fun _ => ?_
set_option maxHeartbeats 8000000 in
set_option maxRecDepth 100000 in
theorem interchangeref1_IsNumber.calls (k : Nat) (a0 : Int) (a1 : ByteArray) (r1 : Bool) (r2 : Int) (w : World) (h : interchangeref1_IsNumber.f k a0 a1 = some (r1, r2)) :
  Calls Tryz.prog 38 #[.int .i64 a0, .string a1] w fun e w' => e = .returned (.tuple #[.bool r1, .int .i64 r2]) ∧ Below w.heap.size w w' := by
 have HB := Aside0.mk (Below.refl w.heap.size w)
 have H := h
 unfold interchangeref1_IsNumber.f at H
 clear h
 replace H := Option.bind_eq_some_iff.mp H
 obtain ⟨t107, A30, H⟩ := H
 try dsimp only at H
 have A3 := Aside0.mk A30
 clear A30
 by_cases c4 : t107 = true
 ·subst c4
  have H1 : ((interchangeref1_isNumber.f k a0 a1).bind fun t108 => (some (t108, 0))) = some (r1, r2) := by rw [if_pos rfl] at H; exact H
  clear H
  have H := H1
  clear H1
  replace H := Option.bind_eq_some_iff.mp H
  obtain ⟨t108, A50, H⟩ := H
  try dsimp only at H
  have A5 := Aside0.mk A50
  clear A50
  simp only [Option.some.injEq, Prod.mk.injEq] at H
  obtain ⟨rfl, rfl⟩ := H
  go_enter Tryz.func38, Tryz.ntmps38
  go_wp2_with (first | ((with_reducible refine gC 58 rfl ?_); refine gl_ 7 Tryz.func58 #[.int .i64 a0] ?_; (with_reducible refine (interchangeref1_isKind.calls a0 true _ A3.out).mono ?_); rintro e w' ⟨rfl, ⟨nd, rfl⟩⟩; refine ⟨_, rfl, ?_⟩) | ((with_reducible refine gC 59 rfl ?_); refine gl_ 11 Tryz.func59 #[.int .i64 a0, .string a1] ?_; (with_reducible refine (interchangeref1_isNumber.calls k a0 a1 t108 _ A5.out).mono ?_); rintro e w6 ⟨rfl, hb⟩; refine ⟨_, rfl, ?_⟩; replace HB := hs w hb; (try clear hb)))
  go_ret2
  exact ⟨by first | rfl | (simp [errW_none, errW_some] <;> rfl) | (simp [*, errW_none, errW_some] <;> rfl), (zb w)⟩
 ·replace c4 := Bool.eq_false_iff.mpr c4
  subst c4
  have H1 : (some (false, 4)) = some (r1, r2) := by rw [if_neg (show ¬ (false = true) by decide)] at H; exact H
  clear H
  have H := H1
  clear H1
  simp only [Option.some.injEq, Prod.mk.injEq] at H
  obtain ⟨rfl, rfl⟩ := H
  go_enter Tryz.func38, Tryz.ntmps38
  go_wp2_with (first | ((with_reducible refine gC 58 rfl ?_); refine gl_ 7 Tryz.func58 #[.int .i64 a0] ?_; (with_reducible refine (interchangeref1_isKind.calls a0 false _ A3.out).mono ?_); rintro e w' ⟨rfl, ⟨nd, rfl⟩⟩; refine ⟨_, rfl, ?_⟩))
  go_ret2
  exact ⟨by first | rfl | (simp [errW_none, errW_some] <;> rfl) | (simp [*, errW_none, errW_some] <;> rfl), (zb w)⟩

/-! ### interchangeref10_isLabel: function 19 -/
def interchangeref10_isLabel.f (k : Nat) (a0 : ByteArray) : Option (Bool) := (interchangeref1_IsNumber.f k 3 a0).bind fun bt109 => (some bt109.1)
theorem interchangeref10_isLabel.mono : ∀ a0 k, LeO (interchangeref10_isLabel.f k a0) (interchangeref10_isLabel.f (k + 1) a0) := by
 intro a0 k
 unfold interchangeref10_isLabel.f
 repeat' first | with_reducible first | exact interchangeref1_IsNumber.mono _ _ _ | exact lr _ | exact ln _ | refine li ?_ ?_ | refine lb ?_ fun _ => ?_ | exact interchangeref1_IsNumber.mono _ _ _ | exact ln _ | refine li ?_ ?_ | refine lb ?_ fun _ => ?_
set_option maxHeartbeats 8000000 in
set_option maxRecDepth 100000 in
theorem interchangeref10_isLabel.calls (k : Nat) (a0 : ByteArray) (r : Bool) (w : World) (h : interchangeref10_isLabel.f k a0 = some r) :
  Calls Tryz.prog 19 #[.string a0] w fun e w' => e = .returned (.bool r) ∧ Below w.heap.size w w' := by
 have HB := Aside0.mk (Below.refl w.heap.size w)
 have H := h
 unfold interchangeref10_isLabel.f at H
 clear h
 replace H := Option.bind_eq_some_iff.mp H
 obtain ⟨⟨t109, t110⟩, A20, H⟩ := H
 try dsimp only at H
 have A2 := Aside0.mk A20
 clear A20
 obtain rfl := Option.some.inj H
 go_enter Tryz.func19, Tryz.ntmps19
 go_wp2_with (first | ((with_reducible refine gC 38 rfl ?_); refine gl_ 7 Tryz.func38 #[.int .i64 3, .string a0] ?_; (with_reducible refine (interchangeref1_IsNumber.calls k 3 a0 t109 t110 _ A2.out).mono ?_); rintro e w3 ⟨rfl, hb⟩; refine ⟨_, rfl, ?_⟩; replace HB := hs w hb; (try clear hb)))
 go_ret
 exact ⟨by first | rfl | (simp [errW_none, errW_some] <;> rfl) | (simp [*, errW_none, errW_some] <;> rfl), (zb w)⟩

/-! ### interchangeref1_CheckDecimal: function 39 -/
def interchangeref1_CheckDecimal.f (a0_0 : Int) (a0_1 : Int) : Option (Int) := (interchangeref1_within.f a0_0 (-1000000000000000) 1000000000000000).bind fun t112 => (if t112 = true then ((interchangeref1_within.f a0_1 0 9).bind fun t113 => (if t113 = true then (some 0) else (some 1))) else (some 1))
set_option maxHeartbeats 8000000 in
set_option maxRecDepth 100000 in
theorem interchangeref1_CheckDecimal.calls (a0_0 : Int) (a0_1 : Int) (r : Int) (w : World) (h : interchangeref1_CheckDecimal.f a0_0 a0_1 = some r) :
  Calls Tryz.prog 39 #[.agg #[.int .i64 a0_0, .int .i64 a0_1]] w fun e w' => e = .returned (.int .i64 r) ∧ Below w.heap.size w w' := by
 have hu39 := Tryz.underlying39
 have HB := Aside0.mk (Below.refl w.heap.size w)
 have H := h
 unfold interchangeref1_CheckDecimal.f at H
 clear h
 replace H := Option.bind_eq_some_iff.mp H
 obtain ⟨t112, A20, H⟩ := H
 try dsimp only at H
 have A2 := Aside0.mk A20
 clear A20
 by_cases c3 : t112 = true
 ·subst c3
  have H1 : ((interchangeref1_within.f a0_1 0 9).bind fun t113 => (if t113 = true then (some 0) else (some 1))) = some r := by rw [if_pos rfl] at H; exact H
  clear H
  have H := H1
  clear H1
  replace H := Option.bind_eq_some_iff.mp H
  obtain ⟨t113, A40, H⟩ := H
  try dsimp only at H
  have A4 := Aside0.mk A40
  clear A40
  by_cases c5 : t113 = true
  ·subst c5
   have H1 : (some 0) = some r := by rw [if_pos rfl] at H; exact H
   clear H
   have H := H1
   clear H1
   obtain rfl := Option.some.inj H
   go_enter Tryz.func39, Tryz.ntmps39
   go_wp2_with (first | ((with_reducible refine gD 1 rfl ?_); refine bx w 1 #[.int .i64 a0_0, .int .i64 a0_1] 39 ?_; intro gb111 hg w6 hb BK111 GW111 GE111; clear HB; intro HB; clear hb hg; obtain ⟨hcz7_0, hcz7_1, hfz7_0, hfz7_1⟩ := cz2 BK111) | ((with_reducible refine gC 57 rfl ?_); refine gl_ 5 Tryz.func57 #[.int .i64 a0_0, .int .i64 (-1000000000000000), .int .i64 1000000000000000] ?_; (with_reducible refine (interchangeref1_within.calls a0_0 (-1000000000000000) 1000000000000000 true _ A2.out).mono ?_); rintro e w' ⟨rfl, ⟨nd, rfl⟩⟩; refine ⟨_, rfl, ?_⟩) | (go_at_call 57; (with_reducible refine (interchangeref1_within.calls a0_1 0 9 true _ A4.out).mono ?_); rintro e w' ⟨rfl, ⟨nd, rfl⟩⟩))
   go_ret
   exact ⟨by first | rfl | (simp [errW_none, errW_some] <;> rfl) | (simp [*, errW_none, errW_some] <;> rfl), (zb w)⟩
  ·replace c5 := Bool.eq_false_iff.mpr c5
   subst c5
   have H1 : (some 1) = some r := by rw [if_neg (show ¬ (false = true) by decide)] at H; exact H
   clear H
   have H := H1
   clear H1
   obtain rfl := Option.some.inj H
   go_enter Tryz.func39, Tryz.ntmps39
   go_wp2_with (first | ((with_reducible refine gD 1 rfl ?_); refine bx w 1 #[.int .i64 a0_0, .int .i64 a0_1] 39 ?_; intro gb111 hg w8 hb BK111 GW111 GE111; clear HB; intro HB; clear hb hg; obtain ⟨hcz9_0, hcz9_1, hfz9_0, hfz9_1⟩ := cz2 BK111) | ((with_reducible refine gC 57 rfl ?_); refine gl_ 5 Tryz.func57 #[.int .i64 a0_0, .int .i64 (-1000000000000000), .int .i64 1000000000000000] ?_; (with_reducible refine (interchangeref1_within.calls a0_0 (-1000000000000000) 1000000000000000 true _ A2.out).mono ?_); rintro e w' ⟨rfl, ⟨nd, rfl⟩⟩; refine ⟨_, rfl, ?_⟩) | (go_at_call 57; (with_reducible refine (interchangeref1_within.calls a0_1 0 9 false _ A4.out).mono ?_); rintro e w' ⟨rfl, ⟨nd, rfl⟩⟩))
   go_ret
   exact ⟨by first | rfl | (simp [errW_none, errW_some] <;> rfl) | (simp [*, errW_none, errW_some] <;> rfl), (zb w)⟩
 ·replace c3 := Bool.eq_false_iff.mpr c3
  subst c3
  have H1 : (some 1) = some r := by rw [if_neg (show ¬ (false = true) by decide)] at H; exact H
  clear H
  have H := H1
  clear H1
  obtain rfl := Option.some.inj H
  go_enter Tryz.func39, Tryz.ntmps39
  go_wp2_with (first | ((with_reducible refine gD 1 rfl ?_); refine bx w 1 #[.int .i64 a0_0, .int .i64 a0_1] 39 ?_; intro gb111 hg w10 hb BK111 GW111 GE111; clear HB; intro HB; clear hb hg; obtain ⟨hcz11_0, hcz11_1, hfz11_0, hfz11_1⟩ := cz2 BK111) | ((with_reducible refine gC 57 rfl ?_); refine gl_ 5 Tryz.func57 #[.int .i64 a0_0, .int .i64 (-1000000000000000), .int .i64 1000000000000000] ?_; (with_reducible refine (interchangeref1_within.calls a0_0 (-1000000000000000) 1000000000000000 false _ A2.out).mono ?_); rintro e w' ⟨rfl, ⟨nd, rfl⟩⟩; refine ⟨_, rfl, ?_⟩))
  go_ret
  exact ⟨by first | rfl | (simp [errW_none, errW_some] <;> rfl) | (simp [*, errW_none, errW_some] <;> rfl), (zb w)⟩

/-! ### interchangeref1_Sign: function 94 -/
def interchangeref1_Sign.f (a0_0 : Bool) (l0_1 : List Int) : Option (Int) := if (l0_1.length : Int) = 0 then (some 0) else (if a0_0 = true then (some (-1)) else (some 1))
set_option maxHeartbeats 8000000 in
set_option maxRecDepth 100000 in
theorem interchangeref1_Sign.calls (a0_0 : Bool) (A0_1 : Option Addr) (c0_1 : Nat) (l0_1 : List Int) (r : Int) (w : World) (hr0_1 : Kd.C (Kd.int .i64) w A0_1 l0_1.length l0_1) (hc0_1 : l0_1.length ≤ c0_1) (h : interchangeref1_Sign.f a0_0 l0_1 = some r) :
  Calls Tryz.prog 94 #[.agg #[.bool a0_0, .slice A0_1 l0_1.length c0_1]] w fun e w' => e = .returned (.int .i64 r) ∧ Below w.heap.size w w' := by
 have hu84 := Tryz.underlying84
 have HR0_1 := Aside0.mk hr0_1
 have HC0_1 := Aside0.mk hc0_1
 clear hr0_1 hc0_1
 have HB := Aside0.mk (Below.refl w.heap.size w)
 have H := h
 unfold interchangeref1_Sign.f at H
 clear h
 by_cases c2 : (l0_1.length : Int) = 0
 ·rw [if_pos c2] at H
  have c2b0 : ((l0_1.length : Int) == 0) = true := beq_iff_eq.mpr c2
  have c2b1 : ((l0_1.length : Int) != 0) = false := bne_eq_false_iff_eq.mpr c2
  clear c2
  obtain rfl := Option.some.inj H
  go_enter Tryz.func94, Tryz.ntmps94
  go_wp2_with (first | ((with_reducible refine gD 1 rfl ?_); refine bx w 1 #[.bool a0_0, .slice A0_1 l0_1.length c0_1] 84 ?_; intro gb114 hg w3 hb BK114 GW114 GE114; clear HB; intro HB; clear hb hg; obtain ⟨hcz4_0, hcz4_1, hfz4_0, hfz4_1⟩ := cz2 BK114))
  go_ret
  exact ⟨by first | rfl | (simp [errW_none, errW_some] <;> rfl) | (simp [*, errW_none, errW_some] <;> rfl), (zb w)⟩
 ·rw [if_neg c2] at H
  have c2b0 : ((l0_1.length : Int) == 0) = false := beq_eq_false_iff_ne.mpr c2
  have c2b1 : ((l0_1.length : Int) != 0) = true := bne_iff_ne.mpr c2
  have c2b2 : ¬ (l0_1 = []) := fun h_ => c2 (by rw [h_]; rfl)
  by_cases c5 : a0_0 = true
  ·subst c5
   have H1 : (some (-1)) = some r := by rw [if_pos rfl] at H; exact H
   clear H
   have H := H1
   clear H1
   obtain rfl := Option.some.inj H
   go_enter Tryz.func94, Tryz.ntmps94
   go_wp2_with (first | ((with_reducible refine gD 1 rfl ?_); refine bx w 1 #[.bool true, .slice A0_1 l0_1.length c0_1] 84 ?_; intro gb114 hg w6 hb BK114 GW114 GE114; clear HB; intro HB; clear hb hg; obtain ⟨hcz7_0, hcz7_1, hfz7_0, hfz7_1⟩ := cz2 BK114))
   go_ret
   exact ⟨by first | rfl | (simp [errW_none, errW_some] <;> rfl) | (simp [*, errW_none, errW_some] <;> rfl), (zb w)⟩
  ·replace c5 := Bool.eq_false_iff.mpr c5
   subst c5
   have H1 : (some 1) = some r := by rw [if_neg (show ¬ (false = true) by decide)] at H; exact H
   clear H
   have H := H1
   clear H1
   obtain rfl := Option.some.inj H
   go_enter Tryz.func94, Tryz.ntmps94
   go_wp2_with (first | ((with_reducible refine gD 1 rfl ?_); refine bx w 1 #[.bool false, .slice A0_1 l0_1.length c0_1] 84 ?_; intro gb114 hg w8 hb BK114 GW114 GE114; clear HB; intro HB; clear hb hg; obtain ⟨hcz9_0, hcz9_1, hfz9_0, hfz9_1⟩ := cz2 BK114))
   go_ret
   exact ⟨by first | rfl | (simp [errW_none, errW_some] <;> rfl) | (simp [*, errW_none, errW_some] <;> rfl), (zb w)⟩

/-! ### interchangeref1_sizes: function 119 -/
def interchangeref1_sizes.l0 : Nat → List Int → List Int → Int → Option (Int)
 | 0, _, _, _ => none
 | k + 1, x0, x1, x5 => if x5 ≥ 0 then (if 0 ≤ x5 then (if x5 < (x0.length : Int) then (if x5 < (x1.length : Int) then (if (rd x0 x5) = (rd x1 x5) then (interchangeref1_sizes.l0 k x0 x1 (wrap64 (x5 - 1))) else (some (wrap64 ((rd x0 x5) - (rd x1 x5))))) else (none)) else (none)) else (none)) else (some 0)
def interchangeref1_sizes.f (k : Nat) (l0 : List Int) (l1 : List Int) : Option (Int) := if (l0.length : Int) = (l1.length : Int) then (interchangeref1_sizes.l0 k l0 l1 (wrap64 ((l0.length : Int) - 1))) else (some (wrap64 ((l0.length : Int) - (l1.length : Int))))
theorem interchangeref1_sizes.mono_l : ∀ k, (∀ y0 y1 y2, LeO (interchangeref1_sizes.l0 k y0 y1 y2) (interchangeref1_sizes.l0 (k + 1) y0 y1 y2))
 | 0 => fun _ _ _ r h => by simp [interchangeref1_sizes.l0] at h
 | k + 1 => by
  have ih0 := interchangeref1_sizes.mono_l k
  ·intro y0 y1 y2
   unfold interchangeref1_sizes.l0
   repeat' first | with_reducible first | exact ih0 _ _ _ | exact lr _ | exact ln _ | refine li ?_ ?_ | refine lb ?_ fun _ => ?_ | exact ih0 _ _ _ | exact ln _ | refine li ?_ ?_ | refine lb ?_ fun _ => ?_
theorem interchangeref1_sizes.mono : ∀ a0 a1 k, LeO (interchangeref1_sizes.f k a0 a1) (interchangeref1_sizes.f (k + 1) a0 a1) := by
 intro a0 a1 k
 have ih0 := interchangeref1_sizes.mono_l k
 unfold interchangeref1_sizes.f
 repeat' first | with_reducible first | exact ih0 _ _ _ | exact lr _ | exact ln _ | refine li ?_ ?_ | refine lb ?_ fun _ => ?_ | exact ih0 _ _ _ | exact ln _ | refine li ?_ ?_ | refine lb ?_ fun _ => ?_
set_option maxHeartbeats 8000000 in
set_option maxRecDepth 100000 in
theorem interchangeref1_sizes.calls (k : Nat) (A0 : Option Addr) (c0 : Nat) (l0 : List Int) (A1 : Option Addr) (c1 : Nat) (l1 : List Int) (r : Int) (w : World) (hr0 : Kd.C (Kd.int .i64) w A0 l0.length l0) (hc0 : l0.length ≤ c0) (hr1 : Kd.C (Kd.int .i64) w A1 l1.length l1) (hc1 : l1.length ≤ c1) (h : interchangeref1_sizes.f k l0 l1 = some r) :
  Calls Tryz.prog 119 #[.slice A0 l0.length c0, .slice A1 l1.length c1] w fun e w' => e = .returned (.int .i64 r) ∧ Below w.heap.size w w' := by
 have HR0 := Aside0.mk hr0
 have HC0 := Aside0.mk hc0
 clear hr0 hc0
 have HR1 := Aside0.mk hr1
 have HC1 := Aside0.mk hc1
 clear hr1 hc1
 have HB := Aside0.mk (Below.refl w.heap.size w)
 have H := h
 unfold interchangeref1_sizes.f at H
 clear h
 by_cases c3 : (l0.length : Int) = (l1.length : Int)
 ·rw [if_pos c3] at H
  have c3b0 : ((l0.length : Int) == (l1.length : Int)) = true := beq_iff_eq.mpr c3
  have c3b1 : ((l0.length : Int) != (l1.length : Int)) = false := bne_eq_false_iff_eq.mpr c3
  have c3b2 : (l0.length == l1.length) = true := by first | simpa using c3 | (simp at c3 ⊢; omega)
  clear c3
  have H' := Aside0.mk H
  clear H
  go_enter Tryz.func119, Tryz.ntmps119
  go_wp2
  repeat (go_quiet (fail); try go_wp2)
  try simp only [sq]
  go_loopg [5] k (fun kq v5 w' => ∃ (x5_1 : Int), v5 = .int .i64 x5_1 ∧ Aside0 (interchangeref1_sizes.l0 kq l0 l1 x5_1 = some r) ∧ Aside0 (kq ≤ k) ∧ Aside0 (Below w.heap.size w w'))
  case atStart => exact ⟨(wrap64 ((l0.length : Int) - 1)), ar, H', ⟨Nat.le_refl _⟩, ⟨(zb w)⟩⟩
  case round =>
   clear H'
   try clear c1
   try clear p2
   try clear c3
   try clear c3b0
   try clear c3b1
   try clear c3b2
   obtain ⟨x5_1, rfl, HA, HK1, HB⟩ := hrel
   cases gk with
   | zero => exact absurd HA.out (by simp [interchangeref1_sizes.l0])
   | succ k1 =>
    have H := HA.out
    clear HA
    simp only [interchangeref1_sizes.l0] at H
    by_cases c4 : x5_1 ≥ 0
    ·rw [if_pos c4] at H
     have c4b0 : decide (0 ≤ x5_1) = true := decide_eq_true c4
     clear c4
     by_cases c5 : 0 ≤ x5_1
     ·rw [if_pos c5] at H
      have c5b0 : decide (0 ≤ x5_1) = true := decide_eq_true c5
      clear c5
      by_cases c6 : x5_1 < (l0.length : Int)
      ·rw [if_pos c6] at H
       have c6b0 : decide (x5_1 < (l0.length : Int)) = true := decide_eq_true c6
       clear c6
       by_cases c7 : x5_1 < (l1.length : Int)
       ·rw [if_pos c7] at H
        have c7b0 : decide (x5_1 < (l1.length : Int)) = true := decide_eq_true c7
        clear c7
        by_cases c8 : (rd l0 x5_1) = (rd l1 x5_1)
        ·rw [if_pos c8] at H
         have c8b0 : ((rd l0 x5_1) == (rd l1 x5_1)) = true := beq_iff_eq.mpr c8
         have c8b1 : ((rd l0 x5_1) != (rd l1 x5_1)) = false := bne_eq_false_iff_eq.mpr c8
         clear c8
         have H' := Aside0.mk H
         clear H
         have p115 : 0 ≤ (x5_1 : Int) := of_decide_eq_true (by assumption)
         have q115 : x5_1 < (l0.length : Int) := of_decide_eq_true (by assumption)
         obtain ⟨ad115, e115, hx115_0⟩ := Kd.at_int HR0.out x5_1 p115 q115
         cases e115
         replace hx115_0 := hz HB hx115_0
         replace p115 := eq_true p115
         replace q115 := eq_true q115
         have p116 : 0 ≤ (x5_1 : Int) := of_decide_eq_true (by assumption)
         have q116 : x5_1 < (l1.length : Int) := of_decide_eq_true (by assumption)
         obtain ⟨ad116, e116, hx116_0⟩ := Kd.at_int HR1.out x5_1 p116 q116
         cases e116
         replace hx116_0 := hz HB hx116_0
         replace p116 := eq_true p116
         replace q116 := eq_true q116
         go_wp2
         repeat (go_quiet (fail); try go_wp2)
         go_roundg k1
         case measure => have := HK1.out; omega
         case rel => exact ⟨(wrap64 (x5_1 - 1)), ar, H', ⟨by have := HK1.out; omega⟩, ⟨(zb w)⟩⟩
        ·rw [if_neg c8] at H
         have c8b0 : ((rd l0 x5_1) == (rd l1 x5_1)) = false := beq_eq_false_iff_ne.mpr c8
         have c8b1 : ((rd l0 x5_1) != (rd l1 x5_1)) = true := bne_iff_ne.mpr c8
         obtain rfl := Option.some.inj H
         have p115 : 0 ≤ (x5_1 : Int) := of_decide_eq_true (by assumption)
         have q115 : x5_1 < (l0.length : Int) := of_decide_eq_true (by assumption)
         obtain ⟨ad115, e115, hx115_0⟩ := Kd.at_int HR0.out x5_1 p115 q115
         cases e115
         replace hx115_0 := hz HB hx115_0
         replace p115 := eq_true p115
         replace q115 := eq_true q115
         have p116 : 0 ≤ (x5_1 : Int) := of_decide_eq_true (by assumption)
         have q116 : x5_1 < (l1.length : Int) := of_decide_eq_true (by assumption)
         obtain ⟨ad116, e116, hx116_0⟩ := Kd.at_int HR1.out x5_1 p116 q116
         cases e116
         replace hx116_0 := hz HB hx116_0
         replace p116 := eq_true p116
         replace q116 := eq_true q116
         have p117 : 0 ≤ (x5_1 : Int) := of_decide_eq_true (by assumption)
         have q117 : x5_1 < (l0.length : Int) := of_decide_eq_true (by assumption)
         obtain ⟨ad117, e117, hx117_0⟩ := Kd.at_int HR0.out x5_1 p117 q117
         obtain rfl : ad115 = ad117 := (by injection e117)
         replace hx117_0 := hz HB hx117_0
         replace p117 := eq_true p117
         replace q117 := eq_true q117
         have p118 : 0 ≤ (x5_1 : Int) := of_decide_eq_true (by assumption)
         have q118 : x5_1 < (l1.length : Int) := of_decide_eq_true (by assumption)
         obtain ⟨ad118, e118, hx118_0⟩ := Kd.at_int HR1.out x5_1 p118 q118
         obtain rfl : ad116 = ad118 := (by injection e118)
         replace hx118_0 := hz HB hx118_0
         replace p118 := eq_true p118
         replace q118 := eq_true q118
         go_wp2
         repeat (go_quiet (fail); try go_wp2)
         go_ret
         exact ⟨by first | rfl | (simp [errW_none, errW_some] <;> rfl) | (simp [*, errW_none, errW_some] <;> rfl), (zb w)⟩
       ·rw [if_neg c7] at H
        exact absurd H (by simp)
      ·rw [if_neg c6] at H
       exact absurd H (by simp)
     ·rw [if_neg c5] at H
      exact absurd H (by simp)
    ·rw [if_neg c4] at H
     have c4b0 : decide (0 ≤ x5_1) = false := decide_eq_false c4
     clear c4
     obtain rfl := Option.some.inj H
     go_wp2
     repeat (go_quiet (fail); try go_wp2)
     go_ret
     exact ⟨by first | rfl | (simp [errW_none, errW_some] <;> rfl) | (simp [*, errW_none, errW_some] <;> rfl), (zb w)⟩
 ·rw [if_neg c3] at H
  have c3b0 : ((l0.length : Int) == (l1.length : Int)) = false := beq_eq_false_iff_ne.mpr c3
  have c3b1 : ((l0.length : Int) != (l1.length : Int)) = true := bne_iff_ne.mpr c3
  have c3b2 : (l0.length == l1.length) = false := by first | simpa using c3 | (simp at c3 ⊢; omega)
  obtain rfl := Option.some.inj H
  go_enter Tryz.func119, Tryz.ntmps119
  go_wp2
  repeat (go_quiet (fail); try go_wp2)
  go_ret
  exact ⟨by first | rfl | (simp [errW_none, errW_some] <;> rfl) | (simp [*, errW_none, errW_some] <;> rfl), (zb w)⟩

/-! ### interchangeref1_digit: function 120 -/
def interchangeref1_digit.f (l0 : List Int) (a1 : Int) : Option (Int) := if a1 < (l0.length : Int) then (if 0 ≤ a1 then (some (rd l0 a1)) else (none)) else (some 0)
set_option maxHeartbeats 8000000 in
set_option maxRecDepth 100000 in
theorem interchangeref1_digit.calls (A0 : Option Addr) (c0 : Nat) (l0 : List Int) (a1 : Int) (r : Int) (w : World) (hr0 : Kd.C (Kd.int .i64) w A0 l0.length l0) (hc0 : l0.length ≤ c0) (h : interchangeref1_digit.f l0 a1 = some r) :
  Calls Tryz.prog 120 #[.slice A0 l0.length c0, .int .i64 a1] w fun e w' => e = .returned (.int .i64 r) ∧ Below w.heap.size w w' := by
 have HR0 := Aside0.mk hr0
 have HC0 := Aside0.mk hc0
 clear hr0 hc0
 have HB := Aside0.mk (Below.refl w.heap.size w)
 have H := h
 unfold interchangeref1_digit.f at H
 clear h
 by_cases c3 : a1 < (l0.length : Int)
 ·rw [if_pos c3] at H
  have c3b0 : decide (a1 < (l0.length : Int)) = true := decide_eq_true c3
  clear c3
  by_cases c4 : 0 ≤ a1
  ·rw [if_pos c4] at H
   have c4b0 : decide (0 ≤ a1) = true := decide_eq_true c4
   clear c4
   obtain rfl := Option.some.inj H
   have p119 : 0 ≤ (a1 : Int) := of_decide_eq_true (by assumption)
   have q119 : a1 < (l0.length : Int) := of_decide_eq_true (by assumption)
   obtain ⟨ad119, e119, hx119_0⟩ := Kd.at_int HR0.out a1 p119 q119
   cases e119
   replace p119 := eq_true p119
   replace q119 := eq_true q119
   go_enter Tryz.func120, Tryz.ntmps120
   go_wp2
   go_ret
   exact ⟨by first | rfl | (simp [errW_none, errW_some] <;> rfl) | (simp [*, errW_none, errW_some] <;> rfl), (zb w)⟩
  ·rw [if_neg c4] at H
   exact absurd H (by simp)
 ·rw [if_neg c3] at H
  have c3b0 : decide (a1 < (l0.length : Int)) = false := decide_eq_false c3
  clear c3
  obtain rfl := Option.some.inj H
  go_enter Tryz.func120, Tryz.ntmps120
  go_wp2
  go_ret
  exact ⟨by first | rfl | (simp [errW_none, errW_some] <;> rfl) | (simp [*, errW_none, errW_some] <;> rfl), (zb w)⟩

/-! ### interchangeref1_trimmed: function 121 -/
def interchangeref1_trimmed.l0 : Nat → Bool → List Int → Option (Bool × List Int)
 | 0, _, _ => none
 | k + 1, x121000, x121001 => if (x121001.length : Int) > 0 then (if 0 ≤ (wrap64 ((x121001.length : Int) - 1)) then (if (wrap64 ((x121001.length : Int) - 1)) < (x121001.length : Int) then (if (rd x121001 (wrap64 ((x121001.length : Int) - 1))) = 0 then (if (wrap64 ((x121001.length : Int) - 1)) ≤ (x121001.length : Int) then (interchangeref1_trimmed.l0 k x121000 (x121001.take ((wrap64 ((x121001.length : Int) - 1)) : Int).toNat)) else (none)) else (if (x121001.length : Int) = 0 then (some (false, x121001)) else (some (x121000, x121001)))) else (none)) else (none)) else (if (x121001.length : Int) = 0 then (some (false, x121001)) else (some (x121000, x121001)))
def interchangeref1_trimmed.f (k : Nat) (a0_0 : Bool) (l0_1 : List Int) : Option (Bool × List Int) := interchangeref1_trimmed.l0 k a0_0 l0_1
theorem interchangeref1_trimmed.mono_l : ∀ k, (∀ y0 y1, LeO (interchangeref1_trimmed.l0 k y0 y1) (interchangeref1_trimmed.l0 (k + 1) y0 y1))
 | 0 => fun _ _ r h => by simp [interchangeref1_trimmed.l0] at h
 | k + 1 => by
  have ih0 := interchangeref1_trimmed.mono_l k
  ·intro y0 y1
   unfold interchangeref1_trimmed.l0
   repeat' first | with_reducible first | exact ih0 _ _ | exact lr _ | exact ln _ | refine li ?_ ?_ | refine lb ?_ fun _ => ?_ | exact ih0 _ _ | exact ln _ | refine li ?_ ?_ | refine lb ?_ fun _ => ?_
theorem interchangeref1_trimmed.mono : ∀ a0 a1 k, LeO (interchangeref1_trimmed.f k a0 a1) (interchangeref1_trimmed.f (k + 1) a0 a1) := by
 intro a0 a1 k
 have ih0 := interchangeref1_trimmed.mono_l k
 unfold interchangeref1_trimmed.f
 repeat' first | with_reducible first | exact ih0 _ _ | exact lr _ | exact ln _ | refine li ?_ ?_ | refine lb ?_ fun _ => ?_ | exact ih0 _ _ | exact ln _ | refine li ?_ ?_ | refine lb ?_ fun _ => ?_
set_option maxHeartbeats 8000000 in
set_option maxRecDepth 100000 in
theorem interchangeref1_trimmed.calls (k : Nat) (a0_0 : Bool) (P0_1_ : Nat → Prop) (A0_1 : Option Addr) (c0_1 : Nat) (l0_1 : List Int) (r1 : Bool) (r2 : List Int) (w : World) (hs0_1 : Kd.V (Kd.int .i64) 3 w w.heap.size (fun k_ => P0_1_ k_) (.slice A0_1 l0_1.length c0_1) l0_1) (h : interchangeref1_trimmed.f k a0_0 l0_1 = some (r1, r2)) :
  Calls Tryz.prog 121 #[.agg #[.bool a0_0, .slice A0_1 l0_1.length c0_1]] w fun e w' => ∃ v1_ : Value, e = .returned (.agg #[.bool r1, v1_]) ∧ Kd.V (Kd.int .i64) 3 w' w.heap.size (fun k_ => (P0_1_ k_ ∨ w.heap.size ≤ k_)) v1_ r2 ∧ Below w.heap.size w w' := by
 have hu84 := Tryz.underlying84
 have HO0_1 := Aside0.mk (show Kd.V (Kd.int .i64) 3 w w.heap.size (fun k_ => (P0_1_ k_ ∨ w.heap.size ≤ k_)) (.slice A0_1 l0_1.length c0_1) l0_1 from Kd.V_mono hs0_1 (fun k_ hk => .inl hk))
 have HB := Aside0.mk (Below.refl w.heap.size w)
 have H := h
 unfold interchangeref1_trimmed.f at H
 clear h
 have H' := Aside0.mk H
 clear H
 go_enter Tryz.func121, Tryz.ntmps121
 go_wp2_with (first | ((with_reducible refine gD 1 rfl ?_); (try (refine gate_guard (by rfl) ?_; dsimp only)); refine box_event ?hg (N := 1) ?hd (cs := #[.bool a0_0, .slice A0_1 l0_1.length c0_1]) (t := 84) ?hr ?_; (case hd => rfl); (case hg => rfl); (case hr => first | (go_simp; done) | (go_simp; rfl)); intro gb120 hg w2 hbox hb; replace HO0_1 := Aside0.mk (Kd.V_below (Kd.V_elderB (by (with_reducible repeat (first | apply Kd.V_alloc | apply Kd.V_drewN | apply Kd.V_drew)); exact HO0_1.out) gb120 (Nat.le_of_eq hg.symm)) hb); have BK120 := Aside0.mk (hbox); have GW120 := Aside0.mk ((by rw [hg]; exact (below_size (zb w)) : w.heap.size ≤ gb120)); have GE120 := Aside0.mk ((by rw [hg]; exact (below_size (zb w)) : w.heap.size ≤ gb120)); replace HB := hs w hb; clear hb hg) | ((with_reducible refine gD 2 rfl ?_); (try (refine gate_guard (by rfl) ?_; dsimp only)); refine box_event ?hg (N := 2) ?hd (cs := #[.bool false, .slice none 0 0]) (t := 84) ?hr ?_; (case hd => rfl); (case hg => rfl); (case hr => first | (go_simp; done) | (go_simp; rfl)); intro gb121 hg w3 hbox hb; replace HO0_1 := Aside0.mk (Kd.V_below (Kd.V_elderB (by (with_reducible repeat (first | apply Kd.V_alloc | apply Kd.V_drewN | apply Kd.V_drew)); exact HO0_1.out) gb121 (Nat.le_of_eq hg.symm)) hb); have BK121 := Aside0.mk (hbox); have GW121 := Aside0.mk ((by rw [hg]; exact (below_size (zb w)) : w.heap.size ≤ gb121)); have GE121 := Aside0.mk ((by rw [hg]; exact (below_size (zb w)) : w.heap.size ≤ gb121)); replace HB := hs w hb; have NB120_121 := nbl BK120 hg; have NB121_120 := nbr BK120 hg; replace BK120 := bb BK120 hb; clear hb hg))
 try simp only [sq]
 go_loopg [] k (fun kq w' => ∃ (x121001_1 : List Int) (u121001 : Value), Aside0 (interchangeref1_trimmed.l0 kq a0_0 x121001_1 = some (r1, r2)) ∧ Aside0 (kq ≤ k) ∧ Aside0 (Kd.V (Kd.int .i64) 3 w' w.heap.size (fun k_ => (P0_1_ k_ ∨ w.heap.size ≤ k_) ∧ k_ ≠ gb120 ∧ k_ ≠ gb121) u121001 x121001_1) ∧ Aside0 (w'.heap[gb120]? = some (.cells #[.bool a0_0, u121001] 84 (0, 0))) ∧ Aside0 (w'.heap[gb121]? = some (.cells #[.bool false, (.slice none 0 0)] 84 (0, 0))) ∧ Aside0 (Below w.heap.size w w'))
 case atStart => exact ⟨(l0_1), (.slice A0_1 l0_1.length c0_1), H', ⟨Nat.le_refl _⟩, ⟨by (with_reducible repeat (first | apply Kd.V_alloc | apply Kd.V_drewN | apply Kd.V_drew)); exact Kd.V_mono HO0_1.out (fun _ hk => ⟨hk.1.1, ⟨hk.1.2, hk.2⟩⟩)⟩, ⟨(zk BK120)⟩, ⟨(zk BK121)⟩, ⟨(zb w)⟩⟩
 case round =>
  clear H'
  try clear c1
  try clear p2
  obtain ⟨x121001_1, u121001, HA, HK1, HO_121001, BK120, BK121, HB⟩ := hrel
  cases gk with
  | zero => exact absurd HA.out (by simp [interchangeref1_trimmed.l0])
  | succ k1 =>
   have H := HA.out
   clear HA
   simp only [interchangeref1_trimmed.l0] at H
   by_cases c4 : (x121001_1.length : Int) > 0
   ·rw [if_pos c4] at H
    have c4b0 : decide (0 < (x121001_1.length : Int)) = true := decide_eq_true c4
    have c4b1 : decide (0 < x121001_1.length) = true := decide_eq_true (by omega)
    clear c4
    obtain ⟨ji5, hji5⟩ : ∃ j_ : Int, (wrap64 ((x121001_1.length : Int) - 1)) = j_ := ⟨_, rfl⟩
    replace H : (if 0 ≤ (ji5) then (if (ji5) < (x121001_1.length : Int) then (if (rd x121001_1 (ji5)) = 0 then (if (ji5) ≤ (x121001_1.length : Int) then (interchangeref1_trimmed.l0 k1 a0_0 (x121001_1.take ((ji5) : Int).toNat)) else (none)) else (if (x121001_1.length : Int) = 0 then (some (false, x121001_1)) else (some (a0_0, x121001_1)))) else (none)) else (none)) = some (r1, r2) := by first | (rw [hji5] at H; exact H) | (simp only [hji5] at H ⊢; exact H)
    have hji5w : (IntKind.i64.wrap ((x121001_1.length : Int) - 1)) = ji5 := (i64_w _).trans hji5
    by_cases c6 : 0 ≤ (ji5)
    ·rw [if_pos c6] at H
     have c6b0 : decide (0 ≤ (ji5)) = true := decide_eq_true c6
     clear c6
     by_cases c7 : (ji5) < (x121001_1.length : Int)
     ·rw [if_pos c7] at H
      have c7b0 : decide ((ji5) < (x121001_1.length : Int)) = true := decide_eq_true c7
      clear c7
      by_cases c8 : (rd x121001_1 (ji5)) = 0
      ·rw [if_pos c8] at H
       have c8b0 : ((rd x121001_1 (ji5)) == 0) = true := beq_iff_eq.mpr c8
       have c8b1 : ((rd x121001_1 (ji5)) != 0) = false := bne_eq_false_iff_eq.mpr c8
       clear c8
       have c9b0 := eq_true (of_decide_eq_true (by assumption) : 0 ≤ (ji5))
       by_cases c10 : (ji5) ≤ (x121001_1.length : Int)
       ·rw [if_pos c10] at H
        have c10b0 := eq_true c10
        have c10b1 : decide ((ji5) ≤ (x121001_1.length : Int)) = true := decide_eq_true c10
        clear c10
        obtain ⟨y123, hy123⟩ : ∃ y_ : List Int, y_ = (x121001_1.take ((ji5) : Int).toNat) := ⟨_, rfl⟩
        replace H : (interchangeref1_trimmed.l0 k1 a0_0 y123) = some (r1, r2) := by first | (rw [hy123]; with_reducible exact H) | (have H2_ := (Option.bind_some _ _).symm.trans H; rw [hy123]; with_reducible exact H2_) | (have H2_ := (Option.bind_some _ _).symm.trans H; with_reducible exact H2_) | with_reducible exact H | (rw [hy123]; exact H) | exact H
        have Ny123 := Aside0.mk hy123
        clear hy123
        have H' := Aside0.mk H
        clear H
        have hnb11 := NB120_121.out
        have hnc11 := NB121_120.out
        obtain ⟨hcz12_0, hcz12_1, hfz12_0, hfz12_1⟩ := cz2 BK120
        obtain ⟨Ao13, co13, eo13⟩ := Kd.V_slice HO_121001.out
        subst eo13
        have p122 : 0 ≤ ((ji5) : Int) := of_decide_eq_true (by assumption)
        have q122 : (ji5) < (x121001_1.length : Int) := of_decide_eq_true (by assumption)
        obtain ⟨ad122, e122, hx122_0⟩ := Kd.at_int (Kd.V_reads' HO_121001.out).2.2 (ji5) p122 q122
        cases e122
        replace p122 := eq_true p122
        replace q122 := eq_true q122
        have q14 : ((ji5) : Int) ≤ ((x121001_1.length : Int) : Int) := of_decide_eq_true (by assumption)
        obtain ⟨i014, hi014, _, hsz14, _⟩ := info_parts info3
        have hroom14 : x121001_1.length ≤ co13 := (Kd.V_reads' HO_121001.out).2.1
        have hC14 : Kd.F (Kd.int .i64) _ _ (some ad122) x121001_1.length x121001_1 := (Kd.V_at (base := w.heap.size) HO_121001.out).2.2
        have hcut14 := cut_to (P := Tryz.prog) 35 3 .i64 Tryz.underlying35 hi014 (some ad122) x121001_1.length co13 (ji5) (of_decide_eq_true (by assumption)) q14 hroom14
        have hr14 := Kd.F_take (m := ((ji5) : Int).toNat) hC14 (by omega)
        have hy14 : y123.length = ((ji5) : Int).toNat := (by rw [Ny123.out, List.length_take]; omega)
        rw [← Ny123.out] at hr14
        rw [← hy14] at hcut14
        have HO127 := Aside0.mk (show Kd.V (Kd.int .i64) 3 _ w.heap.size _ (.slice (some ad122) y123.length co13) y123 from Kd.V_mk (by omega) hr14)
        have HC127 := Aside0.mk (show y123.length ≤ co13 from by omega)
        clear hr14 hC14 hroom14 hi014 hsz14
        have KY14 := Aside0.mk hy14
        clear hy14
        replace q14 := eq_true q14
        go_wp2
        go_roundg k1
        case measure => have := HK1.out; omega
        case rel => exact ⟨(y123), (.slice (some ad122) y123.length co13), H', ⟨by have := HK1.out; omega⟩, ⟨by (with_reducible repeat (first | apply Kd.V_alloc | apply Kd.V_drewN | apply Kd.V_drew)); exact Kd.V_mono (Kd.V_far (p := ⟨gb120, 1, none⟩) (Kd.V_mono HO127.out (fun k_ hk => (⟨hk, hk.2.1⟩ : _ ∧ k_ ≠ gb120))) (fun _ hk => hk.2) (.slice (some ad122) y123.length co13)) (fun _ hk => ⟨hk.1.1, ⟨hk.1.2.1, hk.1.2.2⟩⟩)⟩, ⟨by (with_reducible repeat (first | refine blk_drewN ?_ _ | refine blk_drew ?_ | refine blk_alloc ?_ _)); refine blk_put (cs := #[.bool a0_0, .slice (some ad122) x121001_1.length co13]) ?_ 1 _ rfl; exact zk BK120⟩, ⟨by (with_reducible repeat (first | refine blk_drewN ?_ _ | refine blk_drew ?_ | refine blk_alloc ?_ _)); refine blk_far ?_ NB121_120.out _; exact zk BK121⟩, ⟨(zb w)⟩⟩
       ·rw [if_neg c10] at H
        exact absurd H (by simp)
      ·rw [if_neg c8] at H
       have c8b0 : ((rd x121001_1 (ji5)) == 0) = false := beq_eq_false_iff_ne.mpr c8
       have c8b1 : ((rd x121001_1 (ji5)) != 0) = true := bne_iff_ne.mpr c8
       by_cases c15 : (x121001_1.length : Int) = 0
       ·rw [if_pos c15] at H
        have c15b0 : ((x121001_1.length : Int) == 0) = true := beq_iff_eq.mpr c15
        have c15b1 : ((x121001_1.length : Int) != 0) = false := bne_eq_false_iff_eq.mpr c15
        clear c15
        simp only [Option.some.injEq, Prod.mk.injEq] at H
        obtain ⟨rfl, rfl⟩ := H
        have hnb16 := NB120_121.out
        have hnc16 := NB121_120.out
        obtain ⟨hcz17_0, hcz17_1, hfz17_0, hfz17_1⟩ := cz2 BK120
        obtain ⟨Ao18, co18, eo18⟩ := Kd.V_slice HO_121001.out
        subst eo18
        have p122 : 0 ≤ ((ji5) : Int) := of_decide_eq_true (by assumption)
        have q122 : (ji5) < (x121001_1.length : Int) := of_decide_eq_true (by assumption)
        obtain ⟨ad122, e122, hx122_0⟩ := Kd.at_int (Kd.V_reads' HO_121001.out).2.2 (ji5) p122 q122
        cases e122
        replace p122 := eq_true p122
        replace q122 := eq_true q122
        obtain ⟨hcz19_0, hcz19_1, hfz19_0, hfz19_1⟩ := cz2 BK121
        go_wp2
        refine bodyPost_ret (results_cell_row rfl _ _ gb121 84 #[.bool false, .slice (some ad122) x121001_1.length co18] (0, 0) _ rfl (by (with_reducible repeat (first | refine blk_drewN ?_ _ | refine blk_drew ?_ | refine blk_alloc ?_ _)); refine blk_put (cs := #[.bool false, .slice none 0 0]) ?_ 1 _ rfl; (with_reducible repeat (first | refine blk_drewN ?_ _ | refine blk_drew ?_ | refine blk_alloc ?_ _)); refine blk_put (cs := #[.bool false, .slice none 0 0]) ?_ 0 _ rfl; (with_reducible repeat (first | refine blk_drewN ?_ _ | refine blk_drew ?_ | refine blk_alloc ?_ _)); refine blk_far ?_ NB121_120.out _; exact zk BK121) Tryz.underlying84 rfl (by kernel_rfl)) rfl ?_
        exact ⟨_, by first | rfl | (simp [errW_none, errW_some] <;> rfl) | (simp only [← hji5]; first | rfl | (simp [errW_none, errW_some] <;> rfl)) | (simp [*, errW_none, errW_some] <;> rfl), by (with_reducible repeat (first | apply Kd.V_alloc | apply Kd.V_drewN | apply Kd.V_drew)); exact Kd.V_mono (Kd.V_far (p := ⟨gb121, 1, none⟩) (Kd.V_far (p := ⟨gb121, 0, none⟩) (Kd.V_far (p := ⟨gb120, 0, none⟩) (Kd.V_mono (Kd.V_mono HO_121001.out (fun k_ hk => (⟨hk, hk.2.1⟩ : _ ∧ k_ ≠ gb120))) (fun k_ hk => (⟨hk, hk.1.2.2⟩ : _ ∧ k_ ≠ gb121))) (fun _ hk => hk.1.2) (.bool false)) (fun _ hk => hk.2) (.bool false)) (fun _ hk => hk.2) (.slice (some ad122) x121001_1.length co18)) (fun _ hk => hk.1.1.1), (zb w)⟩
       ·rw [if_neg c15] at H
        have c15b0 : ((x121001_1.length : Int) == 0) = false := beq_eq_false_iff_ne.mpr c15
        have c15b1 : ((x121001_1.length : Int) != 0) = true := bne_iff_ne.mpr c15
        have c15b2 : ¬ (x121001_1 = []) := fun h_ => c15 (by rw [h_]; rfl)
        simp only [Option.some.injEq, Prod.mk.injEq] at H
        obtain ⟨rfl, rfl⟩ := H
        have hnb20 := NB120_121.out
        have hnc20 := NB121_120.out
        obtain ⟨hcz21_0, hcz21_1, hfz21_0, hfz21_1⟩ := cz2 BK120
        obtain ⟨Ao22, co22, eo22⟩ := Kd.V_slice HO_121001.out
        subst eo22
        have p122 : 0 ≤ ((ji5) : Int) := of_decide_eq_true (by assumption)
        have q122 : (ji5) < (x121001_1.length : Int) := of_decide_eq_true (by assumption)
        obtain ⟨ad122, e122, hx122_0⟩ := Kd.at_int (Kd.V_reads' HO_121001.out).2.2 (ji5) p122 q122
        cases e122
        replace p122 := eq_true p122
        replace q122 := eq_true q122
        obtain ⟨hcz23_0, hcz23_1, hfz23_0, hfz23_1⟩ := cz2 BK121
        go_wp2
        refine bodyPost_ret (results_cell_row rfl _ _ gb121 84 #[.bool a0_0, .slice (some ad122) x121001_1.length co22] (0, 0) _ rfl (by (with_reducible repeat (first | refine blk_drewN ?_ _ | refine blk_drew ?_ | refine blk_alloc ?_ _)); refine blk_put (cs := #[.bool a0_0, .slice none 0 0]) ?_ 1 _ rfl; (with_reducible repeat (first | refine blk_drewN ?_ _ | refine blk_drew ?_ | refine blk_alloc ?_ _)); refine blk_put (cs := #[.bool false, .slice none 0 0]) ?_ 0 _ rfl; exact zk BK121) Tryz.underlying84 rfl (by kernel_rfl)) rfl ?_
        exact ⟨_, by first | rfl | (simp [errW_none, errW_some] <;> rfl) | (simp only [← hji5]; first | rfl | (simp [errW_none, errW_some] <;> rfl)) | (simp [*, errW_none, errW_some] <;> rfl), by (with_reducible repeat (first | apply Kd.V_alloc | apply Kd.V_drewN | apply Kd.V_drew)); exact Kd.V_mono (Kd.V_far (p := ⟨gb121, 1, none⟩) (Kd.V_far (p := ⟨gb121, 0, none⟩) (Kd.V_mono HO_121001.out (fun k_ hk => (⟨hk, hk.2.2⟩ : _ ∧ k_ ≠ gb121))) (fun _ hk => hk.2) (.bool a0_0)) (fun _ hk => hk.2) (.slice (some ad122) x121001_1.length co22)) (fun _ hk => hk.1.1), (zb w)⟩
     ·rw [if_neg c7] at H
      exact absurd H (by simp)
    ·rw [if_neg c6] at H
     exact absurd H (by simp)
   ·rw [if_neg c4] at H
    have c4b0 : decide (0 < (x121001_1.length : Int)) = false := decide_eq_false c4
    have c4b1 : decide (0 < x121001_1.length) = false := decide_eq_false (by omega)
    clear c4
    by_cases c24 : (x121001_1.length : Int) = 0
    ·rw [if_pos c24] at H
     have c24b0 : ((x121001_1.length : Int) == 0) = true := beq_iff_eq.mpr c24
     have c24b1 : ((x121001_1.length : Int) != 0) = false := bne_eq_false_iff_eq.mpr c24
     clear c24
     simp only [Option.some.injEq, Prod.mk.injEq] at H
     obtain ⟨rfl, rfl⟩ := H
     have hnb25 := NB120_121.out
     have hnc25 := NB121_120.out
     obtain ⟨hcz26_0, hcz26_1, hfz26_0, hfz26_1⟩ := cz2 BK120
     obtain ⟨Ao27, co27, eo27⟩ := Kd.V_slice HO_121001.out
     subst eo27
     obtain ⟨hcz28_0, hcz28_1, hfz28_0, hfz28_1⟩ := cz2 BK121
     go_wp2
     refine bodyPost_ret (results_cell_row rfl _ _ gb121 84 #[.bool false, .slice Ao27 x121001_1.length co27] (0, 0) _ rfl (by (with_reducible repeat (first | refine blk_drewN ?_ _ | refine blk_drew ?_ | refine blk_alloc ?_ _)); refine blk_put (cs := #[.bool false, .slice none 0 0]) ?_ 1 _ rfl; (with_reducible repeat (first | refine blk_drewN ?_ _ | refine blk_drew ?_ | refine blk_alloc ?_ _)); refine blk_put (cs := #[.bool false, .slice none 0 0]) ?_ 0 _ rfl; (with_reducible repeat (first | refine blk_drewN ?_ _ | refine blk_drew ?_ | refine blk_alloc ?_ _)); refine blk_far ?_ NB121_120.out _; exact zk BK121) Tryz.underlying84 rfl (by kernel_rfl)) rfl ?_
     exact ⟨_, by first | rfl | (simp [errW_none, errW_some] <;> rfl) | (simp [*, errW_none, errW_some] <;> rfl), by (with_reducible repeat (first | apply Kd.V_alloc | apply Kd.V_drewN | apply Kd.V_drew)); exact Kd.V_mono (Kd.V_far (p := ⟨gb121, 1, none⟩) (Kd.V_far (p := ⟨gb121, 0, none⟩) (Kd.V_far (p := ⟨gb120, 0, none⟩) (Kd.V_mono (Kd.V_mono HO_121001.out (fun k_ hk => (⟨hk, hk.2.1⟩ : _ ∧ k_ ≠ gb120))) (fun k_ hk => (⟨hk, hk.1.2.2⟩ : _ ∧ k_ ≠ gb121))) (fun _ hk => hk.1.2) (.bool false)) (fun _ hk => hk.2) (.bool false)) (fun _ hk => hk.2) (.slice Ao27 x121001_1.length co27)) (fun _ hk => hk.1.1.1), (zb w)⟩
    ·rw [if_neg c24] at H
     have c24b0 : ((x121001_1.length : Int) == 0) = false := beq_eq_false_iff_ne.mpr c24
     have c24b1 : ((x121001_1.length : Int) != 0) = true := bne_iff_ne.mpr c24
     have c24b2 : ¬ (x121001_1 = []) := fun h_ => c24 (by rw [h_]; rfl)
     simp only [Option.some.injEq, Prod.mk.injEq] at H
     obtain ⟨rfl, rfl⟩ := H
     have hnb29 := NB120_121.out
     have hnc29 := NB121_120.out
     obtain ⟨hcz30_0, hcz30_1, hfz30_0, hfz30_1⟩ := cz2 BK120
     obtain ⟨Ao31, co31, eo31⟩ := Kd.V_slice HO_121001.out
     subst eo31
     obtain ⟨hcz32_0, hcz32_1, hfz32_0, hfz32_1⟩ := cz2 BK121
     go_wp2
     refine bodyPost_ret (results_cell_row rfl _ _ gb121 84 #[.bool a0_0, .slice Ao31 x121001_1.length co31] (0, 0) _ rfl (by (with_reducible repeat (first | refine blk_drewN ?_ _ | refine blk_drew ?_ | refine blk_alloc ?_ _)); refine blk_put (cs := #[.bool a0_0, .slice none 0 0]) ?_ 1 _ rfl; (with_reducible repeat (first | refine blk_drewN ?_ _ | refine blk_drew ?_ | refine blk_alloc ?_ _)); refine blk_put (cs := #[.bool false, .slice none 0 0]) ?_ 0 _ rfl; exact zk BK121) Tryz.underlying84 rfl (by kernel_rfl)) rfl ?_
     exact ⟨_, by first | rfl | (simp [errW_none, errW_some] <;> rfl) | (simp [*, errW_none, errW_some] <;> rfl), by (with_reducible repeat (first | apply Kd.V_alloc | apply Kd.V_drewN | apply Kd.V_drew)); exact Kd.V_mono (Kd.V_far (p := ⟨gb121, 1, none⟩) (Kd.V_far (p := ⟨gb121, 0, none⟩) (Kd.V_mono HO_121001.out (fun k_ hk => (⟨hk, hk.2.2⟩ : _ ∧ k_ ≠ gb121))) (fun _ hk => hk.2) (.bool a0_0)) (fun _ hk => hk.2) (.slice Ao31 x121001_1.length co31)) (fun _ hk => hk.1.1), (zb w)⟩

end Go.Proofs.YthgefhnolmloiaaGreatDoor.P3
