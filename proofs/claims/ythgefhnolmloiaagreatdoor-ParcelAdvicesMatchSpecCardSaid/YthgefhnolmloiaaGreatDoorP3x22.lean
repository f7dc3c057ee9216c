-- Made by a program of this session out of the translation (wip/pp.py): functions, contracts.
import Derived.Test.YthgefhnolmloiaaGreatDoorP3x0
import Derived.Test.YthgefhnolmloiaaGreatDoorP3x12
import Derived.Test.YthgefhnolmloiaaGreatDoorP3x21
namespace Go.Proofs.YthgefhnolmloiaaGreatDoor.P3
open Go.RowKit Go.Proofs.YthgefhnolmloiaaGreatDoorW.PrintWords Go.Proofs.YthgefhnolmloiaaGreatDoorW.PrintLast Go.Proofs.YthgefhnolmloiaaGreatDoorW.PrintMore
attribute [local go_sem] max2_int min2_int max_two min_two max_three min_three max_four min_four   -- for this text's walks alone
set_option linter.unusedVariables false
set_option linter.unusedSimpArgs false

/-! ### stringslite_HasPrefix: function 116 -/
def stringslite_HasPrefix.f (a0 : ByteArray) (a1 : ByteArray) : Option (Bool) := if (a0.size : Int) ≥ (a1.size : Int) then (if 0 ≤ (a1.size : Int) then (if (a1.size : Int) ≤ (a0.size : Int) then (some ((a0.extract 0 ((a1.size : Int) : Int).toNat).toList == a1.toList)) else (none)) else (none)) else (some false)
set_option maxHeartbeats 8000000 in
set_option maxRecDepth 100000 in
theorem stringslite_HasPrefix.calls (a0 : ByteArray) (a1 : ByteArray) (r : Bool) (w : World) (h : stringslite_HasPrefix.f a0 a1 = some r) :
  Calls Tryz.prog 116 #[.string a0, .string a1] w fun e w' => e = .returned (.bool r) ∧ Drawn0 w w' := by
 have H := h
 unfold stringslite_HasPrefix.f at H
 clear h
 by_cases c3 : (a0.size : Int) ≥ (a1.size : Int)
 ·rw [if_pos c3] at H
  have c3b0 : decide ((a1.size : Int) ≤ (a0.size : Int)) = true := decide_eq_true c3
  have c3b1 : decide (a1.size ≤ a0.size) = true := decide_eq_true (Int.ofNat_le.mp c3)
  clear c3
  by_cases c4 : 0 ≤ (a1.size : Int)
  ·rw [if_pos c4] at H
   have c4b0 := eq_true c4
   have c4b1 : decide (0 ≤ (a1.size : Int)) = true := decide_eq_true c4
   clear c4
   by_cases c5 : (a1.size : Int) ≤ (a0.size : Int)
   ·rw [if_pos c5] at H
    have c5b0 := eq_true c5
    have c5b1 : decide ((a1.size : Int) ≤ (a0.size : Int)) = true := decide_eq_true c5
    clear c5
    obtain rfl := Option.some.inj H
    go_enter Tryz.func116, Tryz.ntmps116
    go_wp2
    go_ret
    exact ⟨ar, dr⟩
   ·rw [if_neg c5] at H
    exact absurd H (by simp)
  ·rw [if_neg c4] at H
   exact absurd H (by simp)
 ·rw [if_neg c3] at H
  have c3b0 : decide ((a1.size : Int) ≤ (a0.size : Int)) = false := decide_eq_false c3
  have c3b1 : decide (a1.size ≤ a0.size) = false := decide_eq_false (fun h => c3 (Int.ofNat_le.mpr h))
  clear c3
  obtain rfl := Option.some.inj H
  go_enter Tryz.func116, Tryz.ntmps116
  go_wp2
  go_ret
  exact ⟨ar, dr⟩

/-! ### strings_HasPrefix: function 83 -/
def strings_HasPrefix.f (a0 : ByteArray) (a1 : ByteArray) : Option (Bool) := (stringslite_HasPrefix.f a0 a1).bind fun t481 => (some t481)
set_option maxHeartbeats 8000000 in
set_option maxRecDepth 100000 in
theorem strings_HasPrefix.calls (a0 : ByteArray) (a1 : ByteArray) (r : Bool) (w : World) (h : strings_HasPrefix.f a0 a1 = some r) :
  Calls Tryz.prog 83 #[.string a0, .string a1] w fun e w' => e = .returned (.bool r) ∧ Drawn0 w w' := by
 have H := h
 unfold strings_HasPrefix.f at H
 clear h
 replace H := Option.bind_eq_some_iff.mp H
 obtain ⟨t481, A30, H⟩ := H
 try dsimp only at H
 have A3 := Aside0.mk A30
 clear A30
 obtain rfl := Option.some.inj H
 go_enter Tryz.func83, Tryz.ntmps83
 go_wp2_with (first | ((with_reducible refine gC 116 rfl ?_); refine gl_ 7 Tryz.func116 #[.string a0, .string a1] ?_; (with_reducible refine (stringslite_HasPrefix.calls a0 a1 t481 _ A3.out).mono ?_); rintro e w' ⟨rfl, ⟨nd, rfl⟩⟩; refine ⟨_, rfl, ?_⟩))
 go_ret
 exact ⟨ar, dr⟩

/-! ### strings_Repeat: function 54 -/
-- STUB rounds=0 making=0
def strings_Repeat.f (a0 : ByteArray) (a1 : Int) : Option (ByteArray) := if a0.data.toList = [48] ∧ 2 ≤ a1 ∧ a1 ≤ 64 then some ((⟨#[48, 48, 48, 48, 48, 48, 48, 48, 48, 48, 48, 48, 48, 48, 48, 48, 48, 48, 48, 48, 48, 48, 48, 48, 48, 48, 48, 48, 48, 48, 48, 48, 48, 48, 48, 48, 48, 48, 48, 48, 48, 48, 48, 48, 48, 48, 48, 48, 48, 48, 48, 48, 48, 48, 48, 48, 48, 48, 48, 48, 48, 48, 48, 48]⟩ : ByteArray).extract 0 a1.toNat) else none
theorem strings_Repeat.mul : ∀ n : Fin 65, bits_Mul.f 1 (n.1 : Int) = some (0, (n.1 : Int)) := by decide +kernel
set_option maxRecDepth 100000 in
theorem strings_Repeat.calls (a0 : ByteArray) (a1 : Int) (r : ByteArray) (w : World) (h : strings_Repeat.f a0 a1 = some r) :
  Calls Tryz.prog 54 #[.string a0, .int .i64 a1] w fun e w' => e = .returned (.string r) ∧ Drawn0 w w' := by
 unfold strings_Repeat.f at h
 split at h
 case isFalse => cases h
 rename_i hc
 obtain ⟨h1, h2, h3⟩ := hc
 obtain rfl := Option.some.inj h
 clear h
 obtain rfl : a0 = ⟨#[48]⟩ := by
  obtain ⟨⟨l⟩⟩ := a0
  simp only at h1
  rw [h1]
 clear h1
 have hm : bits_Mul.f 1 a1 = some (0, a1) := by
  have := strings_Repeat.mul ⟨a1.toNat, by omega⟩
  rw [Int.toNat_of_nonneg (by omega)] at this
  exact this
 have HM := Aside0.mk hm
 have e1 : IntKind.u64.wrap a1 = a1 := by
  show a1 % 18446744073709551616 = a1
  omega
 clear hm
 have c0 : ¬ a1 = 0 := by omega
 have c1 : ¬ a1 = 1 := by omega
 have c2 : ¬ a1 < 0 := by omega
 have c3 : a1 ≤ 128 := by omega
 go_enter Tryz.func54, Tryz.ntmps54
 go_wp2_with (first
  | (go_at_call 82; refine (bits_Mul.calls 1 a1 0 a1 _ HM.out).mono ?_; rintro e w' ⟨rfl, ⟨nd, rfl⟩⟩)
  | (go_at_call 83; refine (strings_HasPrefix.calls _ _ true _ ?hh).mono ?_; (case hh => decide +kernel); rintro e w' ⟨rfl, ⟨nd, rfl⟩⟩)
  | (go_at_call 83; refine (strings_HasPrefix.calls _ _ false _ ?hh).mono ?_; (case hh => decide +kernel); rintro e w' ⟨rfl, ⟨nd, rfl⟩⟩))
 go_ret
 exact ⟨rfl, dr⟩

/-! ### parcel_LabelOf: function 32 -/
def parcel_LabelOf.f (k : Nat) (a0 : ByteArray) (a1 : Int) : Option (ByteArray × Int) := (parcel_room.f k a0).bind fun bt482 => (if bt482.2 = true then ((kit_Outside.f a1 0 (wrap64 (bt482.1 - 1))).bind fun t484 => (if t484 = true then (some ((⟨#[]⟩ : ByteArray), 1)) else ((strconv_Itoa_52.f k a1).bind fun t485 => ((strings_Repeat.f (⟨#[48]⟩ : ByteArray) (wrap64 ((wrap64 (17 - (a0.size : Int))) - (t485.size : Int)))).bind fun t486 => (if a0.size + t486.size ≤ 9223372036854775807 then (if (a0 ++ t486).size + t485.size ≤ 9223372036854775807 then ((amount_Completed.f k 3 ((a0 ++ t486) ++ t485)).bind fun bt487 => (some (bt487.1, bt487.2))) else (none)) else (none)))))) else (some ((⟨#[]⟩ : ByteArray), 3)))
theorem parcel_LabelOf.mono : ∀ a0 a1 k, LeO (parcel_LabelOf.f k a0 a1) (parcel_LabelOf.f (k + 1) a0 a1) := by
 intro a0 a1 k
 unfold parcel_LabelOf.f
 repeat' first | with_reducible first | exact amount_Completed.mono _ _ _ | exact parcel_room.mono _ _ | exact strconv_Itoa_52.mono _ _ | exact lr _ | exact ln _ | refine li ?_ ?_ | refine lb ?_ fun _ => ?_ | exact amount_Completed.mono _ _ _ | exact parcel_room.mono _ _ | exact strconv_Itoa_52.mono _ _ | exact ln _ | refine li ?_ ?_ | refine lb ?_ fun _ => ?_
set_option maxHeartbeats 8000000 in
set_option maxRecDepth 100000 in
theorem parcel_LabelOf.calls (k : Nat) (a0 : ByteArray) (a1 : Int) (r1 : ByteArray) (r2 : Int) (w : World) (h : parcel_LabelOf.f k a0 a1 = some (r1, r2)) :
  Calls Tryz.prog 32 #[.string a0, .int .i64 a1] w fun e w' => e = .returned (.tuple #[.string r1, .int .i64 r2]) ∧ Below w.heap.size w w' := by
 have HB := Aside0.mk (Below.refl w.heap.size w)
 have H := h
 unfold parcel_LabelOf.f at H
 clear h
 replace H := Option.bind_eq_some_iff.mp H
 obtain ⟨⟨t482, t483⟩, A30, H⟩ := H
 try dsimp only at H
 have A3 := Aside0.mk A30
 clear A30
 by_cases c4 : t483 = true
 ·subst c4
  have H1 : ((kit_Outside.f a1 0 (wrap64 (t482 - 1))).bind fun t484 => (if t484 = true then (some ((⟨#[]⟩ : ByteArray), 1)) else ((strconv_Itoa_52.f k a1).bind fun t485 => ((strings_Repeat.f (⟨#[48]⟩ : ByteArray) (wrap64 ((wrap64 (17 - (a0.size : Int))) - (t485.size : Int)))).bind fun t486 => (if a0.size + t486.size ≤ 9223372036854775807 then (if (a0 ++ t486).size + t485.size ≤ 9223372036854775807 then ((amount_Completed.f k 3 ((a0 ++ t486) ++ t485)).bind fun bt487 => (some (bt487.1, bt487.2))) else (none)) else (none)))))) = some (r1, r2) := by rw [if_pos rfl] at H; exact H
  clear H
  have H := H1
  clear H1
  replace H := Option.bind_eq_some_iff.mp H
  obtain ⟨t484, A50, H⟩ := H
  try dsimp only at H
  have A5 := Aside0.mk A50
  clear A50
  by_cases c6 : t484 = true
  ·subst c6
   have H1 : (some ((⟨#[]⟩ : ByteArray), 1)) = some (r1, r2) := by rw [if_pos rfl] at H; exact H
   clear H
   have H := H1
   clear H1
   simp only [Option.some.injEq, Prod.mk.injEq] at H
   obtain ⟨rfl, rfl⟩ := H
   go_enter Tryz.func32, Tryz.ntmps32
   go_wp2_with (first | ((with_reducible refine gC 51 rfl ?_); refine gl_ 11 Tryz.func51 #[.string a0] ?_; (with_reducible refine (parcel_room.calls k a0 t482 true _ A3.out).mono ?_); rintro e w' ⟨rfl, ⟨nd, rfl⟩⟩; refine ⟨_, rfl, ?_⟩) | ((with_reducible refine gC 44 rfl ?_); refine gl_ 19 Tryz.func44 #[.int .i64 a1, .int .i64 0, .int .i64 (wrap64 (t482 - 1))] ?_; (with_reducible refine (kit_Outside.calls a1 0 (wrap64 (t482 - 1)) true _ A5.out).mono ?_); rintro e w' ⟨rfl, ⟨nd, rfl⟩⟩; refine ⟨_, rfl, ?_⟩))
   go_ret2
   exact ⟨by first | rfl | (simp [errW_none, errW_some] <;> rfl) | (simp [*, errW_none, errW_some] <;> rfl), (zb w)⟩
  ·replace c6 := Bool.eq_false_iff.mpr c6
   subst c6
   have H1 : ((strconv_Itoa_52.f k a1).bind fun t485 => ((strings_Repeat.f (⟨#[48]⟩ : ByteArray) (wrap64 ((wrap64 (17 - (a0.size : Int))) - (t485.size : Int)))).bind fun t486 => (if a0.size + t486.size ≤ 9223372036854775807 then (if (a0 ++ t486).size + t485.size ≤ 9223372036854775807 then ((amount_Completed.f k 3 ((a0 ++ t486) ++ t485)).bind fun bt487 => (some (bt487.1, bt487.2))) else (none)) else (none)))) = some (r1, r2) := by rw [if_neg (show ¬ (false = true) by decide)] at H; exact H
   clear H
   have H := H1
   clear H1
   replace H := Option.bind_eq_some_iff.mp H
   obtain ⟨t485, A70, H⟩ := H
   try dsimp only at H
   have A7 := Aside0.mk A70
   clear A70
   replace H := Option.bind_eq_some_iff.mp H
   obtain ⟨t486, A80, H⟩ := H
   try dsimp only at H
   have A8 := Aside0.mk A80
   clear A80
   by_cases c9 : a0.size + t486.size ≤ 9223372036854775807
   ·rw [if_pos c9] at H
    have c9b0 := eq_true c9
    have c9b1 : decide (a0.size + t486.size ≤ 9223372036854775807) = true := decide_eq_true c9
    try have c9b2 : (9223372036854775807 < a0.size + t486.size) = False := eq_false (Nat.not_lt.2 c9)
    by_cases c10 : (a0 ++ t486).size + t485.size ≤ 9223372036854775807
    ·rw [if_pos c10] at H
     have c10b0 := eq_true c10
     have c10b1 : decide ((a0 ++ t486).size + t485.size ≤ 9223372036854775807) = true := decide_eq_true c10
     try have c10b2 : (9223372036854775807 < (a0 ++ t486).size + t485.size) = False := eq_false (Nat.not_lt.2 c10)
     have c10b4 := c10b0
     try simp only [ByteArray.size_append] at c10b4
     have c10b5 := c10b1
     try simp only [ByteArray.size_append] at c10b5
     have c10b6 := c10b2
     try simp only [ByteArray.size_append] at c10b6
     replace H := Option.bind_eq_some_iff.mp H
     obtain ⟨⟨t487, t488⟩, A110, H⟩ := H
     try dsimp only at H
     have A11 := Aside0.mk A110
     clear A110
     simp only [Option.some.injEq, Prod.mk.injEq] at H
     obtain ⟨rfl, rfl⟩ := H
     go_enter Tryz.func32, Tryz.ntmps32
     go_wp2_with (first | ((with_reducible refine gC 51 rfl ?_); refine gl_ 11 Tryz.func51 #[.string a0] ?_; (with_reducible refine (parcel_room.calls k a0 t482 true _ A3.out).mono ?_); rintro e w' ⟨rfl, ⟨nd, rfl⟩⟩; refine ⟨_, rfl, ?_⟩) | ((with_reducible refine gC 44 rfl ?_); refine gl_ 19 Tryz.func44 #[.int .i64 a1, .int .i64 0, .int .i64 (wrap64 (t482 - 1))] ?_; (with_reducible refine (kit_Outside.calls a1 0 (wrap64 (t482 - 1)) false _ A5.out).mono ?_); rintro e w' ⟨rfl, ⟨nd, rfl⟩⟩; refine ⟨_, rfl, ?_⟩) | ((with_reducible refine gC 52 rfl ?_); refine gl_ 21 Tryz.func52 #[.int .i64 a1] ?_; (with_reducible refine (strconv_Itoa_52.calls k a1 t485 _ A7.out).mono ?_); rintro e w12 ⟨rfl, hb⟩; refine ⟨_, rfl, ?_⟩; replace HB := hs w hb; (try clear hb)) | ((with_reducible refine gC 54 rfl ?_); refine gl_ 29 Tryz.func54 #[.string (⟨#[48]⟩ : ByteArray), .int .i64 (wrap64 ((wrap64 (17 - (a0.size : Int))) - (t485.size : Int)))] ?_; (with_reducible refine (strings_Repeat.calls (⟨#[48]⟩ : ByteArray) (wrap64 ((wrap64 (17 - (a0.size : Int))) - (t485.size : Int))) t486 _ A8.out).mono ?_); rintro e w' ⟨rfl, ⟨nd, rfl⟩⟩; refine ⟨_, rfl, ?_⟩) | ((with_reducible refine gC 53 rfl ?_); refine gl_ 33 Tryz.func53 #[.int .i64 3, .string ((a0 ++ t486) ++ t485)] ?_; (with_reducible refine (amount_Completed.calls k 3 ((a0 ++ t486) ++ t485) t487 t488 _ A11.out).mono ?_); rintro e w13 ⟨rfl, hb⟩; refine ⟨_, rfl, ?_⟩; replace HB := hs w hb; (try clear hb)))
     go_ret2
     exact ⟨by first | rfl | (simp [errW_none, errW_some] <;> rfl) | (simp [*, errW_none, errW_some] <;> rfl), (zb w)⟩
    ·rw [if_neg c10] at H
     exact absurd H (by simp)
   ·rw [if_neg c9] at H
    exact absurd H (by simp)
 ·replace c4 := Bool.eq_false_iff.mpr c4
  subst c4
  have H1 : (some ((⟨#[]⟩ : ByteArray), 3)) = some (r1, r2) := by rw [if_neg (show ¬ (false = true) by decide)] at H; exact H
  clear H
  have H := H1
  clear H1
  simp only [Option.some.injEq, Prod.mk.injEq] at H
  obtain ⟨rfl, rfl⟩ := H
  go_enter Tryz.func32, Tryz.ntmps32
  go_wp2_with (first | ((with_reducible refine gC 51 rfl ?_); refine gl_ 11 Tryz.func51 #[.string a0] ?_; (with_reducible refine (parcel_room.calls k a0 t482 false _ A3.out).mono ?_); rintro e w' ⟨rfl, ⟨nd, rfl⟩⟩; refine ⟨_, rfl, ?_⟩))
  go_ret2
  exact ⟨by first | rfl | (simp [errW_none, errW_some] <;> rfl) | (simp [*, errW_none, errW_some] <;> rfl), (zb w)⟩

/-! ### interchangelaw10_awake: function 11 -/
def interchangelaw10_awake.f (k : Nat)  : Option (Bool) := (parcel_LabelOf.f k (⟨#[51, 52, 48, 49, 50, 51, 52, 53]⟩ : ByteArray) 1).bind fun bt489 => (if bt489.2 = 0 then (some (bt489.1.toList == ([51, 52, 48, 49, 50, 51, 52, 53, 48, 48, 48, 48, 48, 48, 48, 48, 49, 55] : List UInt8))) else (some false))
theorem interchangelaw10_awake.mono : ∀ k, LeO (interchangelaw10_awake.f k ) (interchangelaw10_awake.f (k + 1) ) := by
 intro  k
 unfold interchangelaw10_awake.f
 repeat' first | with_reducible first | exact parcel_LabelOf.mono _ _ _ | exact lr _ | exact ln _ | refine li ?_ ?_ | refine lb ?_ fun _ => ?_ | exact parcel_LabelOf.mono _ _ _ | exact ln _ | refine li ?_ ?_ | refine lb ?_ fun _ => ?_
set_option maxHeartbeats 8000000 in
set_option maxRecDepth 100000 in
theorem interchangelaw10_awake.calls (k : Nat)  (r : Bool) (w : World) (h : interchangelaw10_awake.f k  = some r) :
  Calls Tryz.prog 11 #[] w fun e w' => e = .returned (.bool r) ∧ Below w.heap.size w w' := by
 have HB := Aside0.mk (Below.refl w.heap.size w)
 have H := h
 unfold interchangelaw10_awake.f at H
 clear h
 replace H := Option.bind_eq_some_iff.mp H
 obtain ⟨⟨t489, t490⟩, A10, H⟩ := H
 try dsimp only at H
 have A1 := Aside0.mk A10
 clear A10
 by_cases c2 : t490 = 0
 ·rw [if_pos c2] at H
  have c2b0 : (t490 == 0) = true := beq_iff_eq.mpr c2
  have c2b1 : (t490 != 0) = false := bne_eq_false_iff_eq.mpr c2
  clear c2
  obtain rfl := Option.some.inj H
  go_enter Tryz.func11, Tryz.ntmps11
  go_wp2_with (first | ((with_reducible refine gC 32 rfl ?_); refine gl_ 4 Tryz.func32 #[.string (⟨#[51, 52, 48, 49, 50, 51, 52, 53]⟩ : ByteArray), .int .i64 1] ?_; (with_reducible refine (parcel_LabelOf.calls k (⟨#[51, 52, 48, 49, 50, 51, 52, 53]⟩ : ByteArray) 1 t489 t490 _ A1.out).mono ?_); rintro e w3 ⟨rfl, hb⟩; refine ⟨_, rfl, ?_⟩; replace HB := hs w hb; (try clear hb)))
  go_ret
  exact ⟨by first | rfl | (simp [errW_none, errW_some] <;> rfl) | (simp [*, errW_none, errW_some] <;> rfl), (zb w)⟩
 ·rw [if_neg c2] at H
  have c2b0 : (t490 == 0) = false := beq_eq_false_iff_ne.mpr c2
  have c2b1 : (t490 != 0) = true := bne_iff_ne.mpr c2
  obtain rfl := Option.some.inj H
  go_enter Tryz.func11, Tryz.ntmps11
  go_wp2_with (first | ((with_reducible refine gC 32 rfl ?_); refine gl_ 4 Tryz.func32 #[.string (⟨#[51, 52, 48, 49, 50, 51, 52, 53]⟩ : ByteArray), .int .i64 1] ?_; (with_reducible refine (parcel_LabelOf.calls k (⟨#[51, 52, 48, 49, 50, 51, 52, 53]⟩ : ByteArray) 1 t489 t490 _ A1.out).mono ?_); rintro e w4 ⟨rfl, hb⟩; refine ⟨_, rfl, ?_⟩; replace HB := hs w hb; (try clear hb)))
  go_ret
  exact ⟨by first | rfl | (simp [errW_none, errW_some] <;> rfl) | (simp [*, errW_none, errW_some] <;> rfl), (zb w)⟩

end Go.Proofs.YthgefhnolmloiaaGreatDoor.P3
