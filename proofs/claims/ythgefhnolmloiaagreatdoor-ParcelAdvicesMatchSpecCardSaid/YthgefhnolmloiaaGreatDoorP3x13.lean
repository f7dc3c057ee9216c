-- Made by a program of this session out of the translation (wip/pp.py): functions, contracts.
import Derived.Test.YthgefhnolmloiaaGreatDoorP3x0
import Derived.Test.YthgefhnolmloiaaGreatDoorP3x12
namespace Go.Proofs.YthgefhnolmloiaaGreatDoor.P3
open Go.RowKit Go.Proofs.YthgefhnolmloiaaGreatDoorW.PrintWords Go.Proofs.YthgefhnolmloiaaGreatDoorW.PrintLast Go.Proofs.YthgefhnolmloiaaGreatDoorW.PrintMore
attribute [local go_sem] max2_int min2_int max_two min_two max_three min_three max_four min_four   -- for this text's walks alone
set_option linter.unusedVariables false
set_option linter.unusedSimpArgs false

/-! ### kit_InBytes: function 107 -/
def kit_InBytes.l0 : Nat → ByteArray → Int → Int → Int → Int → Option (Bool)
 | 0, _, _, _, _, _ => none
 | k + 1, x0, x1, x2, x9, x10 => if x10 < x9 then (if 0 ≤ x10 then (if x10 < (x0.size : Int) then (if (bt x0 x10) < x1 then (some false) else (if (bt x0 x10) > x2 then (some false) else (kit_InBytes.l0 k x0 x1 x2 x9 (wrap64 (x10 + 1))))) else (none)) else (none)) else (some true)
def kit_InBytes.f (k : Nat) (a0 : ByteArray) (a1 : Int) (a2 : Int) : Option (Bool) := kit_InBytes.l0 k a0 a1 a2 (a0.size : Int) 0
theorem kit_InBytes.mono_l : ∀ k, (∀ y0 y1 y2 y3 y4, LeO (kit_InBytes.l0 k y0 y1 y2 y3 y4) (kit_InBytes.l0 (k + 1) y0 y1 y2 y3 y4))
 | 0 => fun _ _ _ _ _ r h => by simp [kit_InBytes.l0] at h
 | k + 1 => by
  have ih0 := kit_InBytes.mono_l k
  ·intro y0 y1 y2 y3 y4
   unfold kit_InBytes.l0
   repeat' first | with_reducible first | exact ih0 _ _ _ _ _ | exact lr _ | exact ln _ | refine li ?_ ?_ | refine lb ?_ fun _ => ?_ | exact ih0 _ _ _ _ _ | exact ln _ | refine li ?_ ?_ | refine lb ?_ fun _ => ?_
theorem kit_InBytes.mono : ∀ a0 a1 a2 k, LeO (kit_InBytes.f k a0 a1 a2) (kit_InBytes.f (k + 1) a0 a1 a2) := by
 intro a0 a1 a2 k
 have ih0 := kit_InBytes.mono_l k
 unfold kit_InBytes.f
 repeat' first | with_reducible first | exact ih0 _ _ _ _ _ | exact lr _ | exact ln _ | refine li ?_ ?_ | refine lb ?_ fun _ => ?_ | exact ih0 _ _ _ _ _ | exact ln _ | refine li ?_ ?_ | refine lb ?_ fun _ => ?_
set_option maxHeartbeats 8000000 in
set_option maxRecDepth 100000 in
theorem kit_InBytes.calls (k : Nat) (a0 : ByteArray) (a1 : Int) (a2 : Int) (r : Bool) (w : World) (h : kit_InBytes.f k a0 a1 a2 = some r) :
  Calls Tryz.prog 107 #[.string a0, .int .u8 a1, .int .u8 a2] w fun e w' => e = .returned (.bool r) ∧ Drawn0 w w' := by
 have H := h
 unfold kit_InBytes.f at H
 clear h
 have H' := Aside0.mk H
 clear H
 go_enter Tryz.func107, Tryz.ntmps107
 go_wp2
 try simp only [sq]
 go_loopg [10] k (fun kq v10 w' => ∃ (x10_1 : Int), v10 = .int .i64 x10_1 ∧ Aside0 (kit_InBytes.l0 kq a0 a1 a2 (a0.size : Int) x10_1 = some r) ∧ Aside0 (kq ≤ k) ∧ Drawn0 w w')
 case atStart => exact ⟨(0), ar, H', ⟨Nat.le_refl _⟩, dr⟩
 case round =>
  clear H'
  try clear c1
  try clear p2
  obtain ⟨x10_1, rfl, HA, HK1, ⟨m1, rfl⟩⟩ := hrel
  cases gk with
  | zero => exact absurd HA.out (by simp [kit_InBytes.l0])
  | succ k1 =>
   have H := HA.out
   clear HA
   simp only [kit_InBytes.l0] at H
   by_cases c4 : x10_1 < (a0.size : Int)
   ·rw [if_pos c4] at H
    have c4b0 : decide (x10_1 < (a0.size : Int)) = true := decide_eq_true c4
    clear c4
    by_cases c5 : 0 ≤ x10_1
    ·rw [if_pos c5] at H
     have c5b0 : decide (0 ≤ x10_1) = true := decide_eq_true c5
     clear c5
     by_cases c6 : x10_1 < (a0.size : Int)
     ·rw [if_pos c6] at H
      have c6b0 : decide (x10_1 < (a0.size : Int)) = true := decide_eq_true c6
      clear c6
      by_cases c8 : (bt a0 x10_1) < a1
      ·rw [if_pos c8] at H
       have c8b0 : decide ((bt a0 x10_1) < a1) = true := decide_eq_true c8
       clear c8
       obtain rfl := Option.some.inj H
       have p7 : 0 ≤ (x10_1 : Int) := of_decide_eq_true (by assumption)
       have q7 : x10_1 < (a0.size : Int) := of_decide_eq_true (by assumption)
       have hx7 := bt_at a0 x10_1
       replace p7 := eq_true p7
       replace q7 := eq_true q7
       go_wp2
       go_ret
       exact ⟨ar, dr⟩
      ·rw [if_neg c8] at H
       have c8b0 : decide ((bt a0 x10_1) < a1) = false := decide_eq_false c8
       clear c8
       by_cases c10 : (bt a0 x10_1) > a2
       ·rw [if_pos c10] at H
        have c10b0 : decide (a2 < (bt a0 x10_1)) = true := decide_eq_true c10
        clear c10
        obtain rfl := Option.some.inj H
        have p7 : 0 ≤ (x10_1 : Int) := of_decide_eq_true (by assumption)
        have q7 : x10_1 < (a0.size : Int) := of_decide_eq_true (by assumption)
        have hx7 := bt_at a0 x10_1
        replace p7 := eq_true p7
        replace q7 := eq_true q7
        have p9 : 0 ≤ (x10_1 : Int) := of_decide_eq_true (by assumption)
        have q9 : x10_1 < (a0.size : Int) := of_decide_eq_true (by assumption)
        have hx9 := bt_at a0 x10_1
        replace p9 := eq_true p9
        replace q9 := eq_true q9
        go_wp2
        go_ret
        exact ⟨ar, dr⟩
       ·rw [if_neg c10] at H
        have c10b0 : decide (a2 < (bt a0 x10_1)) = false := decide_eq_false c10
        clear c10
        have H' := Aside0.mk H
        clear H
        have p7 : 0 ≤ (x10_1 : Int) := of_decide_eq_true (by assumption)
        have q7 : x10_1 < (a0.size : Int) := of_decide_eq_true (by assumption)
        have hx7 := bt_at a0 x10_1
        replace p7 := eq_true p7
        replace q7 := eq_true q7
        have p9 : 0 ≤ (x10_1 : Int) := of_decide_eq_true (by assumption)
        have q9 : x10_1 < (a0.size : Int) := of_decide_eq_true (by assumption)
        have hx9 := bt_at a0 x10_1
        replace p9 := eq_true p9
        replace q9 := eq_true q9
        go_wp2
        go_roundg k1
        case measure => have := HK1.out; omega
        case rel => exact ⟨(wrap64 (x10_1 + 1)), ar, H', ⟨by have := HK1.out; omega⟩, dr⟩
     ·rw [if_neg c6] at H
      exact absurd H (by simp)
    ·rw [if_neg c5] at H
     exact absurd H (by simp)
   ·rw [if_neg c4] at H
    have c4b0 : decide (x10_1 < (a0.size : Int)) = false := decide_eq_false c4
    clear c4
    obtain rfl := Option.some.inj H
    go_wp2
    go_ret
    exact ⟨ar, dr⟩

/-! ### kit_IsDigits: function 74 -/
def kit_IsDigits.f (k : Nat) (a0 : ByteArray) : Option (Bool) := if a0.toList = ([] : List UInt8) then (some false) else ((kit_InBytes.f k a0 48 57).bind fun t333 => (some t333))
theorem kit_IsDigits.mono : ∀ a0 k, LeO (kit_IsDigits.f k a0) (kit_IsDigits.f (k + 1) a0) := by
 intro a0 k
 unfold kit_IsDigits.f
 repeat' first | with_reducible first | exact kit_InBytes.mono _ _ _ _ | exact lr _ | exact ln _ | refine li ?_ ?_ | refine lb ?_ fun _ => ?_ | exact kit_InBytes.mono _ _ _ _ | exact ln _ | refine li ?_ ?_ | refine lb ?_ fun _ => ?_
set_option maxHeartbeats 8000000 in
set_option maxRecDepth 100000 in
theorem kit_IsDigits.calls (k : Nat) (a0 : ByteArray) (r : Bool) (w : World) (h : kit_IsDigits.f k a0 = some r) :
  Calls Tryz.prog 74 #[.string a0] w fun e w' => e = .returned (.bool r) ∧ Drawn0 w w' := by
 have H := h
 unfold kit_IsDigits.f at H
 clear h
 by_cases c2 : a0.toList = ([] : List UInt8)
 ·rw [if_pos c2] at H
  have c2b0 : (a0.toList == ([] : List UInt8)) = true := beq_iff_eq.mpr c2
  have c2b1 : (a0.toList != ([] : List UInt8)) = false := bne_eq_false_iff_eq.mpr c2
  clear c2
  obtain rfl := Option.some.inj H
  go_enter Tryz.func74, Tryz.ntmps74
  go_wp2
  go_ret
  exact ⟨ar, dr⟩
 ·rw [if_neg c2] at H
  have c2b0 : (a0.toList == ([] : List UInt8)) = false := beq_eq_false_iff_ne.mpr c2
  have c2b1 : (a0.toList != ([] : List UInt8)) = true := bne_iff_ne.mpr c2
  replace H := Option.bind_eq_some_iff.mp H
  obtain ⟨t333, A30, H⟩ := H
  try dsimp only at H
  have A3 := Aside0.mk A30
  clear A30
  obtain rfl := Option.some.inj H
  go_enter Tryz.func74, Tryz.ntmps74
  go_wp2_with (first | (go_at_call 107; (with_reducible refine (kit_InBytes.calls k a0 48 57 t333 _ A3.out).mono ?_); rintro e w' ⟨rfl, ⟨nd, rfl⟩⟩))
  go_ret
  exact ⟨ar, dr⟩

-- NOT PRINTED: function 80 (amount_isBank)

-- NOT PRINTED: function 111 (amount_isTax)

/-! ### amount_lengths: function 112 -/
def amount_lengths.f (a0 : Int) : Option (List Int) := if a0 = 1 then (some (([8, 12, 13, 14] : List Int))) else (if a0 = 2 then (some (([13] : List Int))) else (some (([18] : List Int))))
set_option maxHeartbeats 8000000 in
set_option maxRecDepth 100000 in
theorem amount_lengths.calls (a0 : Int) (r : List Int) (w : World) (h : amount_lengths.f a0 = some r) :
  Calls Tryz.prog 112 #[.int .i64 a0] w fun e w' => ∃ v0_ : Value, e = .returned (v0_) ∧ Kd.R (Kd.int .i64) 3 w' w.heap.size (fun _ => True) v0_ r ∧ Below w.heap.size w w' := by
 have HB := Aside0.mk (Below.refl w.heap.size w)
 have H := h
 unfold amount_lengths.f at H
 clear h
 by_cases c2 : a0 = 1
 ·rw [if_pos c2] at H
  have c2b0 : (a0 == 1) = true := beq_iff_eq.mpr c2
  have c2b1 : (a0 != 1) = false := bne_eq_false_iff_eq.mpr c2
  clear c2
  obtain ⟨y334, hy334⟩ : ∃ y_ : List Int, y_ = (([8, 12, 13, 14] : List Int)) := ⟨_, rfl⟩
  replace H : (some y334) = some r := by first | (rw [hy334]; with_reducible exact H) | (have H2_ := (Option.bind_some _ _).symm.trans H; rw [hy334]; with_reducible exact H2_) | (have H2_ := (Option.bind_some _ _).symm.trans H; with_reducible exact H2_) | with_reducible exact H | (rw [hy334]; exact H) | exact H
  have Ny334 := Aside0.mk hy334
  clear hy334
  obtain rfl := Option.some.inj H
  go_enter Tryz.func112, Tryz.ntmps112
  go_wp2_with (first | ((with_reducible refine gD 6 rfl ?_); refine Kd.R_lit (Kd.int .i64) _ 3 ?hg (N := 6) ?hd (xs := ([8, 12, 13, 14] : List Int)) (inner := [.int .i64 8, .int .i64 12, .int .i64 13, .int .i64 14]) (ok := fun _ => True) (okp := fun _ => True) ?hr ?hp (fun _ hk => hk) trivial (Below.refl _ _) (Nat.le_refl _) (by simp) ?_; (case hd => rfl); (case hg => rfl); (case hr => first | (go_simp; done) | (go_simp; rfl)); (case hp => exact (Reps.one (show Kd.M (Kd.int .i64) _ _ _ 8 [.int .i64 8] from rfl) (Reps.one (show Kd.M (Kd.int .i64) _ _ _ 12 [.int .i64 12] from rfl) (Reps.one (show Kd.M (Kd.int .i64) _ _ _ 13 [.int .i64 13] from rfl) (Reps.one (show Kd.M (Kd.int .i64) _ _ _ 14 [.int .i64 14] from rfl) (Reps.none _ _)))))); intro v335 w3 ho4 hb hg_ hnew_; clear hg_ hnew_; (first | rw [← Ny334.out] at ho4 | (simp only [Int.reduceToNat] at ho4; rw [← Ny334.out] at ho4)); have HO336 := Aside0.mk (Kd.R_lower ho4 (below_size (zb w))); replace HB := hs w hb; clear hb ho4))
  go_ret
  exact ⟨_, by first | rfl | (simp [errW_none, errW_some] <;> rfl) | (simp [*, errW_none, errW_some] <;> rfl), by (with_reducible repeat (first | apply Kd.R_alloc | apply Kd.R_drewN | apply Kd.R_drew)); exact HO336.out, (zb w)⟩
 ·rw [if_neg c2] at H
  have c2b0 : (a0 == 1) = false := beq_eq_false_iff_ne.mpr c2
  have c2b1 : (a0 != 1) = true := bne_iff_ne.mpr c2
  by_cases c5 : a0 = 2
  ·rw [if_pos c5] at H
   have c5b0 : (a0 == 2) = true := beq_iff_eq.mpr c5
   have c5b1 : (a0 != 2) = false := bne_eq_false_iff_eq.mpr c5
   clear c5
   obtain ⟨y337, hy337⟩ : ∃ y_ : List Int, y_ = (([13] : List Int)) := ⟨_, rfl⟩
   replace H : (some y337) = some r := by first | (rw [hy337]; with_reducible exact H) | (have H2_ := (Option.bind_some _ _).symm.trans H; rw [hy337]; with_reducible exact H2_) | (have H2_ := (Option.bind_some _ _).symm.trans H; with_reducible exact H2_) | with_reducible exact H | (rw [hy337]; exact H) | exact H
   have Ny337 := Aside0.mk hy337
   clear hy337
   obtain rfl := Option.some.inj H
   go_enter Tryz.func112, Tryz.ntmps112
   go_wp2_with (first | ((with_reducible refine gD 9 rfl ?_); refine Kd.R_lit (Kd.int .i64) _ 3 ?hg (N := 9) ?hd (xs := ([13] : List Int)) (inner := [.int .i64 13]) (ok := fun _ => True) (okp := fun _ => True) ?hr ?hp (fun _ hk => hk) trivial (Below.refl _ _) (Nat.le_refl _) (by simp) ?_; (case hd => rfl); (case hg => rfl); (case hr => first | (go_simp; done) | (go_simp; rfl)); (case hp => exact (Reps.one (show Kd.M (Kd.int .i64) _ _ _ 13 [.int .i64 13] from rfl) (Reps.none _ _))); intro v338 w6 ho7 hb hg_ hnew_; clear hg_ hnew_; (first | rw [← Ny337.out] at ho7 | (simp only [Int.reduceToNat] at ho7; rw [← Ny337.out] at ho7)); have HO339 := Aside0.mk (Kd.R_lower ho7 (below_size (zb w))); replace HB := hs w hb; clear hb ho7))
   go_ret
   exact ⟨_, by first | rfl | (simp [errW_none, errW_some] <;> rfl) | (simp [*, errW_none, errW_some] <;> rfl), by (with_reducible repeat (first | apply Kd.R_alloc | apply Kd.R_drewN | apply Kd.R_drew)); exact HO339.out, (zb w)⟩
  ·rw [if_neg c5] at H
   have c5b0 : (a0 == 2) = false := beq_eq_false_iff_ne.mpr c5
   have c5b1 : (a0 != 2) = true := bne_iff_ne.mpr c5
   obtain ⟨y340, hy340⟩ : ∃ y_ : List Int, y_ = (([18] : List Int)) := ⟨_, rfl⟩
   replace H : (some y340) = some r := by first | (rw [hy340]; with_reducible exact H) | (have H2_ := (Option.bind_some _ _).symm.trans H; rw [hy340]; with_reducible exact H2_) | (have H2_ := (Option.bind_some _ _).symm.trans H; with_reducible exact H2_) | with_reducible exact H | (rw [hy340]; exact H) | exact H
   have Ny340 := Aside0.mk hy340
   clear hy340
   obtain rfl := Option.some.inj H
   go_enter Tryz.func112, Tryz.ntmps112
   go_wp2_with (first | ((with_reducible refine gD 10 rfl ?_); refine Kd.R_lit (Kd.int .i64) _ 3 ?hg (N := 10) ?hd (xs := ([18] : List Int)) (inner := [.int .i64 18]) (ok := fun _ => True) (okp := fun _ => True) ?hr ?hp (fun _ hk => hk) trivial (Below.refl _ _) (Nat.le_refl _) (by simp) ?_; (case hd => rfl); (case hg => rfl); (case hr => first | (go_simp; done) | (go_simp; rfl)); (case hp => exact (Reps.one (show Kd.M (Kd.int .i64) _ _ _ 18 [.int .i64 18] from rfl) (Reps.none _ _))); intro v341 w8 ho9 hb hg_ hnew_; clear hg_ hnew_; (first | rw [← Ny340.out] at ho9 | (simp only [Int.reduceToNat] at ho9; rw [← Ny340.out] at ho9)); have HO342 := Aside0.mk (Kd.R_lower ho9 (below_size (zb w))); replace HB := hs w hb; clear hb ho9))
   go_ret
   exact ⟨_, by first | rfl | (simp [errW_none, errW_some] <;> rfl) | (simp [*, errW_none, errW_some] <;> rfl), by (with_reducible repeat (first | apply Kd.R_alloc | apply Kd.R_drewN | apply Kd.R_drew)); exact HO342.out, (zb w)⟩

/-! ### amount_isSum: function 113 -/
def amount_isSum.l0 : Nat → ByteArray → Int → Int → Int → Option (Bool)
 | 0, _, _, _, _ => none
 | k + 1, x0, x3, x7, x8 => if x8 < x7 then (if 0 ≤ (wrap64 ((wrap64 ((x0.size : Int) - 1)) - x8)) then (if (wrap64 ((wrap64 ((x0.size : Int) - 1)) - x8)) < (x0.size : Int) then (if (Int.tmod x8 2) = 1 then (amount_isSum.l0 k x0 (wrap64 (x3 + ((((bt x0 (wrap64 ((wrap64 ((x0.size : Int) - 1)) - x8))) - 48) % 256) * 3))) x7 (wrap64 (x8 + 1))) else (amount_isSum.l0 k x0 (wrap64 (x3 + (((bt x0 (wrap64 ((wrap64 ((x0.size : Int) - 1)) - x8))) - 48) % 256))) x7 (wrap64 (x8 + 1)))) else (none)) else (none)) else (some ((Int.tmod x3 10) == 0))
def amount_isSum.f (k : Nat) (a0 : ByteArray) : Option (Bool) := amount_isSum.l0 k a0 0 (a0.size : Int) 0
theorem amount_isSum.mono_l : ∀ k, (∀ y0 y1 y2 y3, LeO (amount_isSum.l0 k y0 y1 y2 y3) (amount_isSum.l0 (k + 1) y0 y1 y2 y3))
 | 0 => fun _ _ _ _ r h => by simp [amount_isSum.l0] at h
 | k + 1 => by
  have ih0 := amount_isSum.mono_l k
  ·intro y0 y1 y2 y3
   unfold amount_isSum.l0
   repeat' first | with_reducible first | exact ih0 _ _ _ _ | exact lr _ | exact ln _ | refine li ?_ ?_ | refine lb ?_ fun _ => ?_ | exact ih0 _ _ _ _ | exact ln _ | refine li ?_ ?_ | refine lb ?_ fun _ => ?_
theorem amount_isSum.mono : ∀ a0 k, LeO (amount_isSum.f k a0) (amount_isSum.f (k + 1) a0) := by
 intro a0 k
 have ih0 := amount_isSum.mono_l k
 unfold amount_isSum.f
 repeat' first | with_reducible first | exact ih0 _ _ _ _ | exact lr _ | exact ln _ | refine li ?_ ?_ | refine lb ?_ fun _ => ?_ | exact ih0 _ _ _ _ | exact ln _ | refine li ?_ ?_ | refine lb ?_ fun _ => ?_
set_option maxHeartbeats 8000000 in
set_option maxRecDepth 100000 in
theorem amount_isSum.calls (k : Nat) (a0 : ByteArray) (r : Bool) (w : World) (h : amount_isSum.f k a0 = some r) :
  Calls Tryz.prog 113 #[.string a0] w fun e w' => e = .returned (.bool r) ∧ Drawn0 w w' := by
 have H := h
 unfold amount_isSum.f at H
 clear h
 have H' := Aside0.mk H
 clear H
 go_enter Tryz.func113, Tryz.ntmps113
 go_wp2
 try simp only [sq]
 go_loopg [3, 8] k (fun kq v3 v8 w' => ∃ (x3_1 : Int) (x8_1 : Int), v3 = .int .i64 x3_1 ∧ v8 = .int .i64 x8_1 ∧ Aside0 (amount_isSum.l0 kq a0 x3_1 (a0.size : Int) x8_1 = some r) ∧ Aside0 (kq ≤ k) ∧ Drawn0 w w')
 case atStart => exact ⟨(0), (0), ar, ar, H', ⟨Nat.le_refl _⟩, dr⟩
 case round =>
  clear H'
  try clear c1
  obtain ⟨x3_1, x8_1, rfl, rfl, HA, HK1, ⟨m1, rfl⟩⟩ := hrel
  cases gk with
  | zero => exact absurd HA.out (by simp [amount_isSum.l0])
  | succ k1 =>
   have H := HA.out
   clear HA
   simp only [amount_isSum.l0] at H
   by_cases c2 : x8_1 < (a0.size : Int)
   ·rw [if_pos c2] at H
    have c2b0 : decide (x8_1 < (a0.size : Int)) = true := decide_eq_true c2
    clear c2
    obtain ⟨ji3, hji3⟩ : ∃ j_ : Int, (wrap64 ((wrap64 ((a0.size : Int) - 1)) - x8_1)) = j_ := ⟨_, rfl⟩
    replace H : (if 0 ≤ (ji3) then (if (ji3) < (a0.size : Int) then (if (Int.tmod x8_1 2) = 1 then (amount_isSum.l0 k1 a0 (wrap64 (x3_1 + ((((bt a0 (ji3)) - 48) % 256) * 3))) (a0.size : Int) (wrap64 (x8_1 + 1))) else (amount_isSum.l0 k1 a0 (wrap64 (x3_1 + (((bt a0 (ji3)) - 48) % 256))) (a0.size : Int) (wrap64 (x8_1 + 1)))) else (none)) else (none)) = some r := by first | (rw [hji3] at H; exact H) | (simp only [hji3] at H ⊢; exact H)
    have hji3w : (IntKind.i64.wrap ((wrap64 ((a0.size : Int) - 1)) - x8_1)) = ji3 := (i64_w _).trans hji3
    by_cases c4 : 0 ≤ (ji3)
    ·rw [if_pos c4] at H
     have c4b0 : decide (0 ≤ (ji3)) = true := decide_eq_true c4
     clear c4
     by_cases c5 : (ji3) < (a0.size : Int)
     ·rw [if_pos c5] at H
      have c5b0 : decide ((ji3) < (a0.size : Int)) = true := decide_eq_true c5
      clear c5
      by_cases c7 : (Int.tmod x8_1 2) = 1
      ·rw [if_pos c7] at H
       have c7b0 : ((Int.tmod x8_1 2) == 1) = true := beq_iff_eq.mpr c7
       have c7b1 : ((Int.tmod x8_1 2) != 1) = false := bne_eq_false_iff_eq.mpr c7
       clear c7
       have H' := Aside0.mk H
       clear H
       have p6 : 0 ≤ ((ji3) : Int) := of_decide_eq_true (by assumption)
       have q6 : (ji3) < (a0.size : Int) := of_decide_eq_true (by assumption)
       have hx6 := bt_at a0 (ji3)
       replace p6 := eq_true p6
       replace q6 := eq_true q6
       go_wp2
       go_roundg k1
       case measure => have := HK1.out; omega
       case rel => exact ⟨(wrap64 (x3_1 + ((((bt a0 (ji3)) - 48) % 256) * 3))), (wrap64 (x8_1 + 1)), (by first | rfl | (simp; done) | (simp only [← hji3] <;> (first | rfl | simp)) | (simp [*]; done)), ar, H', ⟨by have := HK1.out; omega⟩, dr⟩
      ·rw [if_neg c7] at H
       have c7b0 : ((Int.tmod x8_1 2) == 1) = false := beq_eq_false_iff_ne.mpr c7
       have c7b1 : ((Int.tmod x8_1 2) != 1) = true := bne_iff_ne.mpr c7
       have H' := Aside0.mk H
       clear H
       have p6 : 0 ≤ ((ji3) : Int) := of_decide_eq_true (by assumption)
       have q6 : (ji3) < (a0.size : Int) := of_decide_eq_true (by assumption)
       have hx6 := bt_at a0 (ji3)
       replace p6 := eq_true p6
       replace q6 := eq_true q6
       go_wp2
       go_roundg k1
       case measure => have := HK1.out; omega
       case rel => exact ⟨(wrap64 (x3_1 + (((bt a0 (ji3)) - 48) % 256))), (wrap64 (x8_1 + 1)), (by first | rfl | (simp; done) | (simp only [← hji3] <;> (first | rfl | simp)) | (simp [*]; done)), ar, H', ⟨by have := HK1.out; omega⟩, dr⟩
     ·rw [if_neg c5] at H
      exact absurd H (by simp)
    ·rw [if_neg c4] at H
     exact absurd H (by simp)
   ·rw [if_neg c2] at H
    have c2b0 : decide (x8_1 < (a0.size : Int)) = false := decide_eq_false c2
    clear c2
    obtain rfl := Option.some.inj H
    go_wp2
    go_ret
    exact ⟨ar, dr⟩

/-! ### amount_isNumber: function 81 -/
def amount_isNumber.f (k : Nat) (a0 : Int) (a1 : ByteArray) : Option (Bool) := if a0 = 4 then (none) else (if a0 = 5 then (none) else ((amount_lengths.f a0).bind fun t343 => ((slices_Contains_int_int.f k t343 (a1.size : Int)).bind fun t346 => (if t346 = true then ((kit_IsDigits.f k a1).bind fun t347 => (if t347 = true then ((amount_isSum.f k a1).bind fun t348 => (some t348)) else (some false))) else (some false)))))
theorem amount_isNumber.mono : ∀ a0 a1 k, LeO (amount_isNumber.f k a0 a1) (amount_isNumber.f (k + 1) a0 a1) := by
 intro a0 a1 k
 unfold amount_isNumber.f
 repeat' first | with_reducible first | exact amount_isSum.mono _ _ | exact kit_IsDigits.mono _ _ | exact slices_Contains_int_int.mono _ _ _ | exact lr _ | exact ln _ | refine li ?_ ?_ | refine lb ?_ fun _ => ?_ | exact amount_isSum.mono _ _ | exact kit_IsDigits.mono _ _ | exact slices_Contains_int_int.mono _ _ _ | exact ln _ | refine li ?_ ?_ | refine lb ?_ fun _ => ?_
set_option maxHeartbeats 8000000 in
set_option maxRecDepth 100000 in
theorem amount_isNumber.calls (k : Nat) (a0 : Int) (a1 : ByteArray) (r : Bool) (w : World) (h : amount_isNumber.f k a0 a1 = some r) :
  Calls Tryz.prog 81 #[.int .i64 a0, .string a1] w fun e w' => e = .returned (.bool r) ∧ Below w.heap.size w w' := by
 have HB := Aside0.mk (Below.refl w.heap.size w)
 have H := h
 unfold amount_isNumber.f at H
 clear h
 by_cases c3 : a0 = 4
 ·rw [if_pos c3] at H
  exact absurd H (by simp)
 ·rw [if_neg c3] at H
  have c3b0 : (a0 == 4) = false := beq_eq_false_iff_ne.mpr c3
  have c3b1 : (a0 != 4) = true := bne_iff_ne.mpr c3
  by_cases c4 : a0 = 5
  ·rw [if_pos c4] at H
   exact absurd H (by simp)
  ·rw [if_neg c4] at H
   have c4b0 : (a0 == 5) = false := beq_eq_false_iff_ne.mpr c4
   have c4b1 : (a0 != 5) = true := bne_iff_ne.mpr c4
   replace H := Option.bind_eq_some_iff.mp H
   obtain ⟨t343, A50, H⟩ := H
   try dsimp only at H
   have A5 := Aside0.mk A50
   clear A50
   replace H := Option.bind_eq_some_iff.mp H
   obtain ⟨t346, A60, H⟩ := H
   try dsimp only at H
   have A6 := Aside0.mk A60
   clear A60
   by_cases c7 : t346 = true
   ·subst c7
    have H1 : ((kit_IsDigits.f k a1).bind fun t347 => (if t347 = true then ((amount_isSum.f k a1).bind fun t348 => (some t348)) else (some false))) = some r := by rw [if_pos rfl] at H; exact H
    clear H
    have H := H1
    clear H1
    replace H := Option.bind_eq_some_iff.mp H
    obtain ⟨t347, A80, H⟩ := H
    try dsimp only at H
    have A8 := Aside0.mk A80
    clear A80
    by_cases c9 : t347 = true
    ·subst c9
     have H1 : ((amount_isSum.f k a1).bind fun t348 => (some t348)) = some r := by rw [if_pos rfl] at H; exact H
     clear H
     have H := H1
     clear H1
     replace H := Option.bind_eq_some_iff.mp H
     obtain ⟨t348, A100, H⟩ := H
     try dsimp only at H
     have A10 := Aside0.mk A100
     clear A100
     obtain rfl := Option.some.inj H
     go_enter Tryz.func81, Tryz.ntmps81
     go_wp2_with (first | ((with_reducible refine gC 112 rfl ?_); refine gl_ 15 Tryz.func112 #[.int .i64 a0] ?_; (with_reducible refine (amount_lengths.calls a0 t343 _ A5.out).mono ?_); rintro e w11 ⟨v344, rfl, ho0, hb⟩; refine ⟨_, rfl, ?_⟩; have HO345 := Aside0.mk (Kd.R_lower ho0 (below_size (zb w))); replace HB := hs w hb; (try clear hb); (try clear ho0); obtain ⟨Ao12, co12, eo12⟩ := Kd.R_slice HO345.out; subst eo12) | ((with_reducible refine gC 33 rfl ?_); refine gl_ 18 Tryz.func33 #[.slice Ao12 t343.length co12, .int .i64 (a1.size : Int)] ?_; (with_reducible refine (slices_Contains_int_int.calls k _ _ t343 (a1.size : Int) true _ ?side1 ?side2 A6.out).mono ?_); (case side1 => repeat (first | exact (Kd.R_reads' HO345.out).2.2 | (with_reducible refine Kd.C_alloc ?_ _) | (with_reducible refine Kd.C_drewN ?_ _) | (with_reducible refine Kd.C_drew ?_))); (case side2 => exact (Kd.R_reads' HO345.out).2.1); rintro e w' ⟨rfl, ⟨nd, rfl⟩⟩; refine ⟨_, rfl, ?_⟩) | (go_at_call 74; (with_reducible refine (kit_IsDigits.calls k a1 true _ A8.out).mono ?_); rintro e w' ⟨rfl, ⟨nd, rfl⟩⟩) | (go_at_call 113; (with_reducible refine (amount_isSum.calls k a1 t348 _ A10.out).mono ?_); rintro e w' ⟨rfl, ⟨nd, rfl⟩⟩))
     go_ret
     exact ⟨by first | rfl | (simp [errW_none, errW_some] <;> rfl) | (simp [*, errW_none, errW_some] <;> rfl), (zb w)⟩
    ·replace c9 := Bool.eq_false_iff.mpr c9
     subst c9
     have H1 : (some false) = some r := by rw [if_neg (show ¬ (false = true) by decide)] at H; exact H
     clear H
     have H := H1
     clear H1
     obtain rfl := Option.some.inj H
     go_enter Tryz.func81, Tryz.ntmps81
     go_wp2_with (first | ((with_reducible refine gC 112 rfl ?_); refine gl_ 15 Tryz.func112 #[.int .i64 a0] ?_; (with_reducible refine (amount_lengths.calls a0 t343 _ A5.out).mono ?_); rintro e w13 ⟨v344, rfl, ho0, hb⟩; refine ⟨_, rfl, ?_⟩; have HO345 := Aside0.mk (Kd.R_lower ho0 (below_size (zb w))); replace HB := hs w hb; (try clear hb); (try clear ho0); obtain ⟨Ao14, co14, eo14⟩ := Kd.R_slice HO345.out; subst eo14) | ((with_reducible refine gC 33 rfl ?_); refine gl_ 18 Tryz.func33 #[.slice Ao14 t343.length co14, .int .i64 (a1.size : Int)] ?_; (with_reducible refine (slices_Contains_int_int.calls k _ _ t343 (a1.size : Int) true _ ?side1 ?side2 A6.out).mono ?_); (case side1 => repeat (first | exact (Kd.R_reads' HO345.out).2.2 | (with_reducible refine Kd.C_alloc ?_ _) | (with_reducible refine Kd.C_drewN ?_ _) | (with_reducible refine Kd.C_drew ?_))); (case side2 => exact (Kd.R_reads' HO345.out).2.1); rintro e w' ⟨rfl, ⟨nd, rfl⟩⟩; refine ⟨_, rfl, ?_⟩) | (go_at_call 74; (with_reducible refine (kit_IsDigits.calls k a1 false _ A8.out).mono ?_); rintro e w' ⟨rfl, ⟨nd, rfl⟩⟩))
     go_ret
     exact ⟨by first | rfl | (simp [errW_none, errW_some] <;> rfl) | (simp [*, errW_none, errW_some] <;> rfl), (zb w)⟩
   ·replace c7 := Bool.eq_false_iff.mpr c7
    subst c7
    have H1 : (some false) = some r := by rw [if_neg (show ¬ (false = true) by decide)] at H; exact H
    clear H
    have H := H1
    clear H1
    obtain rfl := Option.some.inj H
    go_enter Tryz.func81, Tryz.ntmps81
    go_wp2_with (first | ((with_reducible refine gC 112 rfl ?_); refine gl_ 15 Tryz.func112 #[.int .i64 a0] ?_; (with_reducible refine (amount_lengths.calls a0 t343 _ A5.out).mono ?_); rintro e w15 ⟨v344, rfl, ho0, hb⟩; refine ⟨_, rfl, ?_⟩; have HO345 := Aside0.mk (Kd.R_lower ho0 (below_size (zb w))); replace HB := hs w hb; (try clear hb); (try clear ho0); obtain ⟨Ao16, co16, eo16⟩ := Kd.R_slice HO345.out; subst eo16) | ((with_reducible refine gC 33 rfl ?_); refine gl_ 18 Tryz.func33 #[.slice Ao16 t343.length co16, .int .i64 (a1.size : Int)] ?_; (with_reducible refine (slices_Contains_int_int.calls k _ _ t343 (a1.size : Int) false _ ?side1 ?side2 A6.out).mono ?_); (case side1 => repeat (first | exact (Kd.R_reads' HO345.out).2.2 | (with_reducible refine Kd.C_alloc ?_ _) | (with_reducible refine Kd.C_drewN ?_ _) | (with_reducible refine Kd.C_drew ?_))); (case side2 => exact (Kd.R_reads' HO345.out).2.1); rintro e w' ⟨rfl, ⟨nd, rfl⟩⟩; refine ⟨_, rfl, ?_⟩))
    go_ret
    exact ⟨by first | rfl | (simp [errW_none, errW_some] <;> rfl) | (simp [*, errW_none, errW_some] <;> rfl), (zb w)⟩

/-! ### amount_IsNumber: function 69 -/
def amount_IsNumber.f (k : Nat) (a0 : Int) (a1 : ByteArray) : Option (Bool × Int) := (amount_isKind.f a0).bind fun t349 => (if t349 = true then ((amount_isNumber.f k a0 a1).bind fun t350 => (some (t350, 0))) else (some (false, 4)))
theorem amount_IsNumber.mono : ∀ a0 a1 k, LeO (amount_IsNumber.f k a0 a1) (amount_IsNumber.f (k + 1) a0 a1) := by
 intro a0 a1 k
 unfold amount_IsNumber.f
 repeat' first | with_reducible first | exact amount_isNumber.mono _ _ _ | exact lr _ | exact ln _ | refine li ?_ ?_ | refine lb ?_ fun _ => ?_ | exact amount_isNumber.mono _ _ _ | exact ln _ | refine li ?_ ?_ | refine lb ?_ fun _ => ?_
set_option maxHeartbeats 8000000 in
set_option maxRecDepth 100000 in
theorem amount_IsNumber.calls (k : Nat) (a0 : Int) (a1 : ByteArray) (r1 : Bool) (r2 : Int) (w : World) (h : amount_IsNumber.f k a0 a1 = some (r1, r2)) :
  Calls Tryz.prog 69 #[.int .i64 a0, .string a1] w fun e w' => e = .returned (.tuple #[.bool r1, .int .i64 r2]) ∧ Below w.heap.size w w' := by
 have HB := Aside0.mk (Below.refl w.heap.size w)
 have H := h
 unfold amount_IsNumber.f at H
 clear h
 replace H := Option.bind_eq_some_iff.mp H
 obtain ⟨t349, A30, H⟩ := H
 try dsimp only at H
 have A3 := Aside0.mk A30
 clear A30
 by_cases c4 : t349 = true
 ·subst c4
  have H1 : ((amount_isNumber.f k a0 a1).bind fun t350 => (some (t350, 0))) = some (r1, r2) := by rw [if_pos rfl] at H; exact H
  clear H
  have H := H1
  clear H1
  replace H := Option.bind_eq_some_iff.mp H
  obtain ⟨t350, A50, H⟩ := H
  try dsimp only at H
  have A5 := Aside0.mk A50
  clear A50
  simp only [Option.some.injEq, Prod.mk.injEq] at H
  obtain ⟨rfl, rfl⟩ := H
  go_enter Tryz.func69, Tryz.ntmps69
  go_wp2_with (first | ((with_reducible refine gC 76 rfl ?_); refine gl_ 7 Tryz.func76 #[.int .i64 a0] ?_; (with_reducible refine (amount_isKind.calls a0 true _ A3.out).mono ?_); rintro e w' ⟨rfl, ⟨nd, rfl⟩⟩; refine ⟨_, rfl, ?_⟩) | ((with_reducible refine gC 81 rfl ?_); refine gl_ 11 Tryz.func81 #[.int .i64 a0, .string a1] ?_; (with_reducible refine (amount_isNumber.calls k a0 a1 t350 _ A5.out).mono ?_); rintro e w6 ⟨rfl, hb⟩; refine ⟨_, rfl, ?_⟩; replace HB := hs w hb; (try clear hb)))
  go_ret2
  exact ⟨by first | rfl | (simp [errW_none, errW_some] <;> rfl) | (simp [*, errW_none, errW_some] <;> rfl), (zb w)⟩
 ·replace c4 := Bool.eq_false_iff.mpr c4
  subst c4
  have H1 : (some (false, 4)) = some (r1, r2) := by rw [if_neg (show ¬ (false = true) by decide)] at H; exact H
  clear H
  have H := H1
  clear H1
  simp only [Option.some.injEq, Prod.mk.injEq] at H
  obtain ⟨rfl, rfl⟩ := H
  go_enter Tryz.func69, Tryz.ntmps69
  go_wp2_with (first | ((with_reducible refine gC 76 rfl ?_); refine gl_ 7 Tryz.func76 #[.int .i64 a0] ?_; (with_reducible refine (amount_isKind.calls a0 false _ A3.out).mono ?_); rintro e w' ⟨rfl, ⟨nd, rfl⟩⟩; refine ⟨_, rfl, ?_⟩))
  go_ret2
  exact ⟨by first | rfl | (simp [errW_none, errW_some] <;> rfl) | (simp [*, errW_none, errW_some] <;> rfl), (zb w)⟩

/-! ### parcel_isLabel: function 45 -/
def parcel_isLabel.f (k : Nat) (a0 : ByteArray) : Option (Bool) := (amount_IsNumber.f k 3 a0).bind fun bt351 => (some bt351.1)
theorem parcel_isLabel.mono : ∀ a0 k, LeO (parcel_isLabel.f k a0) (parcel_isLabel.f (k + 1) a0) := by
 intro a0 k
 unfold parcel_isLabel.f
 repeat' first | with_reducible first | exact amount_IsNumber.mono _ _ _ | exact lr _ | exact ln _ | refine li ?_ ?_ | refine lb ?_ fun _ => ?_ | exact amount_IsNumber.mono _ _ _ | exact ln _ | refine li ?_ ?_ | refine lb ?_ fun _ => ?_
set_option maxHeartbeats 8000000 in
set_option maxRecDepth 100000 in
theorem parcel_isLabel.calls (k : Nat) (a0 : ByteArray) (r : Bool) (w : World) (h : parcel_isLabel.f k a0 = some r) :
  Calls Tryz.prog 45 #[.string a0] w fun e w' => e = .returned (.bool r) ∧ Below w.heap.size w w' := by
 have HB := Aside0.mk (Below.refl w.heap.size w)
 have H := h
 unfold parcel_isLabel.f at H
 clear h
 replace H := Option.bind_eq_some_iff.mp H
 obtain ⟨⟨t351, t352⟩, A20, H⟩ := H
 try dsimp only at H
 have A2 := Aside0.mk A20
 clear A20
 obtain rfl := Option.some.inj H
 go_enter Tryz.func45, Tryz.ntmps45
 go_wp2_with (first | ((with_reducible refine gC 69 rfl ?_); refine gl_ 7 Tryz.func69 #[.int .i64 3, .string a0] ?_; (with_reducible refine (amount_IsNumber.calls k 3 a0 t351 t352 _ A2.out).mono ?_); rintro e w3 ⟨rfl, hb⟩; refine ⟨_, rfl, ?_⟩; replace HB := hs w hb; (try clear hb)))
 go_ret
 exact ⟨by first | rfl | (simp [errW_none, errW_some] <;> rfl) | (simp [*, errW_none, errW_some] <;> rfl), (zb w)⟩

/-! ### amount_CheckDecimal: function 70 -/
def amount_CheckDecimal.f (a0_0 : Int) (a0_1 : Int) : Option (Int) := (kit_Outside.f a0_0 (-1000000000000000) 1000000000000000).bind fun t354 => (if t354 = true then (some 1) else ((kit_Outside.f a0_1 0 9).bind fun t355 => (if t355 = true then (some 1) else (some 0))))
set_option maxHeartbeats 8000000 in
set_option maxRecDepth 100000 in
theorem amount_CheckDecimal.calls (a0_0 : Int) (a0_1 : Int) (r : Int) (w : World) (h : amount_CheckDecimal.f a0_0 a0_1 = some r) :
  Calls Tryz.prog 70 #[.agg #[.int .i64 a0_0, .int .i64 a0_1]] w fun e w' => e = .returned (.int .i64 r) ∧ Below w.heap.size w w' := by
 have hu39 := Tryz.underlying39
 have HB := Aside0.mk (Below.refl w.heap.size w)
 have H := h
 unfold amount_CheckDecimal.f at H
 clear h
 replace H := Option.bind_eq_some_iff.mp H
 obtain ⟨t354, A20, H⟩ := H
 try dsimp only at H
 have A2 := Aside0.mk A20
 clear A20
 by_cases c3 : t354 = true
 ·subst c3
  have H1 : (some 1) = some r := by rw [if_pos rfl] at H; exact H
  clear H
  have H := H1
  clear H1
  obtain rfl := Option.some.inj H
  go_enter Tryz.func70, Tryz.ntmps70
  go_wp2_with (first | ((with_reducible refine gD 1 rfl ?_); refine bx w 1 #[.int .i64 a0_0, .int .i64 a0_1] 39 ?_; intro gb353 hg w4 hb BK353 GW353 GE353; clear HB; intro HB; clear hb hg; obtain ⟨hcz5_0, hcz5_1, hfz5_0, hfz5_1⟩ := cz2 BK353) | ((with_reducible refine gC 44 rfl ?_); refine gl_ 5 Tryz.func44 #[.int .i64 a0_0, .int .i64 (-1000000000000000), .int .i64 1000000000000000] ?_; (with_reducible refine (kit_Outside.calls a0_0 (-1000000000000000) 1000000000000000 true _ A2.out).mono ?_); rintro e w' ⟨rfl, ⟨nd, rfl⟩⟩; refine ⟨_, rfl, ?_⟩))
  go_ret
  exact ⟨by first | rfl | (simp [errW_none, errW_some] <;> rfl) | (simp [*, errW_none, errW_some] <;> rfl), (zb w)⟩
 ·replace c3 := Bool.eq_false_iff.mpr c3
  subst c3
  have H1 : ((kit_Outside.f a0_1 0 9).bind fun t355 => (if t355 = true then (some 1) else (some 0))) = some r := by rw [if_neg (show ¬ (false = true) by decide)] at H; exact H
  clear H
  have H := H1
  clear H1
  replace H := Option.bind_eq_some_iff.mp H
  obtain ⟨t355, A60, H⟩ := H
  try dsimp only at H
  have A6 := Aside0.mk A60
  clear A60
  by_cases c7 : t355 = true
  ·subst c7
   have H1 : (some 1) = some r := by rw [if_pos rfl] at H; exact H
   clear H
   have H := H1
   clear H1
   obtain rfl := Option.some.inj H
   go_enter Tryz.func70, Tryz.ntmps70
   go_wp2_with (first | ((with_reducible refine gD 1 rfl ?_); refine bx w 1 #[.int .i64 a0_0, .int .i64 a0_1] 39 ?_; intro gb353 hg w8 hb BK353 GW353 GE353; clear HB; intro HB; clear hb hg; obtain ⟨hcz9_0, hcz9_1, hfz9_0, hfz9_1⟩ := cz2 BK353) | ((with_reducible refine gC 44 rfl ?_); refine gl_ 5 Tryz.func44 #[.int .i64 a0_0, .int .i64 (-1000000000000000), .int .i64 1000000000000000] ?_; (with_reducible refine (kit_Outside.calls a0_0 (-1000000000000000) 1000000000000000 false _ A2.out).mono ?_); rintro e w' ⟨rfl, ⟨nd, rfl⟩⟩; refine ⟨_, rfl, ?_⟩) | (go_at_call 44; (with_reducible refine (kit_Outside.calls a0_1 0 9 true _ A6.out).mono ?_); rintro e w' ⟨rfl, ⟨nd, rfl⟩⟩))
   go_ret
   exact ⟨by first | rfl | (simp [errW_none, errW_some] <;> rfl) | (simp [*, errW_none, errW_some] <;> rfl), (zb w)⟩
  ·replace c7 := Bool.eq_false_iff.mpr c7
   subst c7
   have H1 : (some 0) = some r := by rw [if_neg (show ¬ (false = true) by decide)] at H; exact H
   clear H
   have H := H1
   clear H1
   obtain rfl := Option.some.inj H
   go_enter Tryz.func70, Tryz.ntmps70
   go_wp2_with (first | ((with_reducible refine gD 1 rfl ?_); refine bx w 1 #[.int .i64 a0_0, .int .i64 a0_1] 39 ?_; intro gb353 hg w10 hb BK353 GW353 GE353; clear HB; intro HB; clear hb hg; obtain ⟨hcz11_0, hcz11_1, hfz11_0, hfz11_1⟩ := cz2 BK353) | ((with_reducible refine gC 44 rfl ?_); refine gl_ 5 Tryz.func44 #[.int .i64 a0_0, .int .i64 (-1000000000000000), .int .i64 1000000000000000] ?_; (with_reducible refine (kit_Outside.calls a0_0 (-1000000000000000) 1000000000000000 false _ A2.out).mono ?_); rintro e w' ⟨rfl, ⟨nd, rfl⟩⟩; refine ⟨_, rfl, ?_⟩) | (go_at_call 44; (with_reducible refine (kit_Outside.calls a0_1 0 9 false _ A6.out).mono ?_); rintro e w' ⟨rfl, ⟨nd, rfl⟩⟩))
   go_ret
   exact ⟨by first | rfl | (simp [errW_none, errW_some] <;> rfl) | (simp [*, errW_none, errW_some] <;> rfl), (zb w)⟩

/-! ### order_power: function 104 -/
def order_power.l0 : Nat → Int → Int → Int → Option (Int)
 | 0, _, _, _ => none
 | k + 1, x3, x4, x5 => if x5 < x4 then (order_power.l0 k (wrap64 (x3 * 10)) x4 (wrap64 (x5 + 1))) else (some x3)
def order_power.f (k : Nat) (a0 : Int) : Option (Int) := order_power.l0 k 1 a0 0
theorem order_power.mono_l : ∀ k, (∀ y0 y1 y2, LeO (order_power.l0 k y0 y1 y2) (order_power.l0 (k + 1) y0 y1 y2))
 | 0 => fun _ _ _ r h => by simp [order_power.l0] at h
 | k + 1 => by
  have ih0 := order_power.mono_l k
  ·intro y0 y1 y2
   unfold order_power.l0
   repeat' first | with_reducible first | exact ih0 _ _ _ | exact lr _ | exact ln _ | refine li ?_ ?_ | refine lb ?_ fun _ => ?_ | exact ih0 _ _ _ | exact ln _ | refine li ?_ ?_ | refine lb ?_ fun _ => ?_
theorem order_power.mono : ∀ a0 k, LeO (order_power.f k a0) (order_power.f (k + 1) a0) := by
 intro a0 k
 have ih0 := order_power.mono_l k
 unfold order_power.f
 repeat' first | with_reducible first | exact ih0 _ _ _ | exact lr _ | exact ln _ | refine li ?_ ?_ | refine lb ?_ fun _ => ?_ | exact ih0 _ _ _ | exact ln _ | refine li ?_ ?_ | refine lb ?_ fun _ => ?_
set_option maxHeartbeats 8000000 in
set_option maxRecDepth 100000 in
theorem order_power.calls (k : Nat) (a0 : Int) (r : Int) (w : World) (h : order_power.f k a0 = some r) :
  Calls Tryz.prog 104 #[.int .i64 a0] w fun e w' => e = .returned (.int .i64 r) ∧ Drawn0 w w' := by
 have H := h
 unfold order_power.f at H
 clear h
 have H' := Aside0.mk H
 clear H
 go_enter Tryz.func104, Tryz.ntmps104
 go_wp2
 try simp only [sq]
 go_loopg [3, 5] k (fun kq v3 v5 w' => ∃ (x3_1 : Int) (x5_1 : Int), v3 = .int .i64 x3_1 ∧ v5 = .int .i64 x5_1 ∧ Aside0 (order_power.l0 kq x3_1 a0 x5_1 = some r) ∧ Aside0 (kq ≤ k) ∧ Drawn0 w w')
 case atStart => exact ⟨(1), (0), ar, ar, H', ⟨Nat.le_refl _⟩, dr⟩
 case round =>
  clear H'
  try clear c1
  obtain ⟨x3_1, x5_1, rfl, rfl, HA, HK1, ⟨m1, rfl⟩⟩ := hrel
  cases gk with
  | zero => exact absurd HA.out (by simp [order_power.l0])
  | succ k1 =>
   have H := HA.out
   clear HA
   simp only [order_power.l0] at H
   by_cases c2 : x5_1 < a0
   ·rw [if_pos c2] at H
    have c2b0 : decide (x5_1 < a0) = true := decide_eq_true c2
    clear c2
    have H' := Aside0.mk H
    clear H
    go_wp2
    go_roundg k1
    case measure => have := HK1.out; omega
    case rel => exact ⟨(wrap64 (x3_1 * 10)), (wrap64 (x5_1 + 1)), ar, ar, H', ⟨by have := HK1.out; omega⟩, dr⟩
   ·rw [if_neg c2] at H
    have c2b0 : decide (x5_1 < a0) = false := decide_eq_false c2
    clear c2
    obtain rfl := Option.some.inj H
    go_wp2
    go_ret
    exact ⟨ar, dr⟩

/-! ### order_within: function 71 -/
def order_within.f (k : Nat) (a0_0 : Int) (a0_1 : Int) (a1 : Int) (a2 : Int) : Option (Bool) := if a0_1 ≤ a1 then (if a0_0 ≥ 0 then ((order_power.f k a0_1).bind fun t357 => (some (decide (a0_0 ≤ (wrap64 (a2 * t357)))))) else (some false)) else (some false)
theorem order_within.mono : ∀ a0 a1 a2 a3 k, LeO (order_within.f k a0 a1 a2 a3) (order_within.f (k + 1) a0 a1 a2 a3) := by
 intro a0 a1 a2 a3 k
 unfold order_within.f
 repeat' first | with_reducible first | exact order_power.mono _ _ | exact lr _ | exact ln _ | refine li ?_ ?_ | refine lb ?_ fun _ => ?_ | exact order_power.mono _ _ | exact ln _ | refine li ?_ ?_ | refine lb ?_ fun _ => ?_
set_option maxHeartbeats 8000000 in
set_option maxRecDepth 100000 in
theorem order_within.calls (k : Nat) (a0_0 : Int) (a0_1 : Int) (a1 : Int) (a2 : Int) (r : Bool) (w : World) (h : order_within.f k a0_0 a0_1 a1 a2 = some r) :
  Calls Tryz.prog 71 #[.agg #[.int .i64 a0_0, .int .i64 a0_1], .int .i64 a1, .int .i64 a2] w fun e w' => e = .returned (.bool r) ∧ Below w.heap.size w w' := by
 have hu39 := Tryz.underlying39
 have HB := Aside0.mk (Below.refl w.heap.size w)
 have H := h
 unfold order_within.f at H
 clear h
 by_cases c4 : a0_1 ≤ a1
 ·rw [if_pos c4] at H
  have c4b0 : decide (a0_1 ≤ a1) = true := decide_eq_true c4
  clear c4
  by_cases c5 : a0_0 ≥ 0
  ·rw [if_pos c5] at H
   have c5b0 : decide (0 ≤ a0_0) = true := decide_eq_true c5
   clear c5
   replace H := Option.bind_eq_some_iff.mp H
   obtain ⟨t357, A60, H⟩ := H
   try dsimp only at H
   have A6 := Aside0.mk A60
   clear A60
   obtain rfl := Option.some.inj H
   go_enter Tryz.func71, Tryz.ntmps71
   go_wp2_with (first | ((with_reducible refine gD 3 rfl ?_); refine bx w 3 #[.int .i64 a0_0, .int .i64 a0_1] 39 ?_; intro gb356 hg w7 hb BK356 GW356 GE356; clear HB; intro HB; clear hb hg; obtain ⟨hcz8_0, hcz8_1, hfz8_0, hfz8_1⟩ := cz2 BK356) | (go_at_call 104; (with_reducible refine (order_power.calls k a0_1 t357 _ A6.out).mono ?_); rintro e w' ⟨rfl, ⟨nd, rfl⟩⟩; (try first | exact ⟨rfl, _, World.drewN_drewN _ _ _⟩ | exact ⟨rfl, _, Eq.trans (World.drewN_drewN _ _ _) (congrArg (World.drewN _) (Nat.add_assoc _ _ _))⟩)))
   repeat (go_quiet (first | ((with_reducible refine gD 3 rfl ?_); refine bx w 3 #[.int .i64 a0_0, .int .i64 a0_1] 39 ?_; intro gb356 hg w7 hb BK356 GW356 GE356; clear HB; intro HB; clear hb hg; obtain ⟨hcz8_0, hcz8_1, hfz8_0, hfz8_1⟩ := cz2 BK356) | (go_at_call 104; (with_reducible refine (order_power.calls k a0_1 t357 _ A6.out).mono ?_); rintro e w' ⟨rfl, ⟨nd, rfl⟩⟩; (try first | exact ⟨rfl, _, World.drewN_drewN _ _ _⟩ | exact ⟨rfl, _, Eq.trans (World.drewN_drewN _ _ _) (congrArg (World.drewN _) (Nat.add_assoc _ _ _))⟩))); try go_wp2_with (first | ((with_reducible refine gD 3 rfl ?_); refine bx w 3 #[.int .i64 a0_0, .int .i64 a0_1] 39 ?_; intro gb356 hg w7 hb BK356 GW356 GE356; clear HB; intro HB; clear hb hg; obtain ⟨hcz8_0, hcz8_1, hfz8_0, hfz8_1⟩ := cz2 BK356) | (go_at_call 104; (with_reducible refine (order_power.calls k a0_1 t357 _ A6.out).mono ?_); rintro e w' ⟨rfl, ⟨nd, rfl⟩⟩; (try first | exact ⟨rfl, _, World.drewN_drewN _ _ _⟩ | exact ⟨rfl, _, Eq.trans (World.drewN_drewN _ _ _) (congrArg (World.drewN _) (Nat.add_assoc _ _ _))⟩))))
   go_ret
   exact ⟨by first | rfl | (simp [errW_none, errW_some] <;> rfl) | (simp [*, errW_none, errW_some] <;> rfl), (zb w)⟩
  ·rw [if_neg c5] at H
   have c5b0 : decide (0 ≤ a0_0) = false := decide_eq_false c5
   clear c5
   obtain rfl := Option.some.inj H
   go_enter Tryz.func71, Tryz.ntmps71
   go_wp2_with (first | ((with_reducible refine gD 3 rfl ?_); refine bx w 3 #[.int .i64 a0_0, .int .i64 a0_1] 39 ?_; intro gb356 hg w9 hb BK356 GW356 GE356; clear HB; intro HB; clear hb hg; obtain ⟨hcz10_0, hcz10_1, hfz10_0, hfz10_1⟩ := cz2 BK356))
   repeat (go_quiet (first | ((with_reducible refine gD 3 rfl ?_); refine bx w 3 #[.int .i64 a0_0, .int .i64 a0_1] 39 ?_; intro gb356 hg w9 hb BK356 GW356 GE356; clear HB; intro HB; clear hb hg; obtain ⟨hcz10_0, hcz10_1, hfz10_0, hfz10_1⟩ := cz2 BK356)); try go_wp2_with (first | ((with_reducible refine gD 3 rfl ?_); refine bx w 3 #[.int .i64 a0_0, .int .i64 a0_1] 39 ?_; intro gb356 hg w9 hb BK356 GW356 GE356; clear HB; intro HB; clear hb hg; obtain ⟨hcz10_0, hcz10_1, hfz10_0, hfz10_1⟩ := cz2 BK356)))
   go_ret
   exact ⟨by first | rfl | (simp [errW_none, errW_some] <;> rfl) | (simp [*, errW_none, errW_some] <;> rfl), (zb w)⟩
 ·rw [if_neg c4] at H
  have c4b0 : decide (a0_1 ≤ a1) = false := decide_eq_false c4
  clear c4
  obtain rfl := Option.some.inj H
  go_enter Tryz.func71, Tryz.ntmps71
  go_wp2_with (first | ((with_reducible refine gD 3 rfl ?_); refine bx w 3 #[.int .i64 a0_0, .int .i64 a0_1] 39 ?_; intro gb356 hg w11 hb BK356 GW356 GE356; clear HB; intro HB; clear hb hg; obtain ⟨hcz12_0, hcz12_1, hfz12_0, hfz12_1⟩ := cz2 BK356))
  repeat (go_quiet (first | ((with_reducible refine gD 3 rfl ?_); refine bx w 3 #[.int .i64 a0_0, .int .i64 a0_1] 39 ?_; intro gb356 hg w11 hb BK356 GW356 GE356; clear HB; intro HB; clear hb hg; obtain ⟨hcz12_0, hcz12_1, hfz12_0, hfz12_1⟩ := cz2 BK356)); try go_wp2_with (first | ((with_reducible refine gD 3 rfl ?_); refine bx w 3 #[.int .i64 a0_0, .int .i64 a0_1] 39 ?_; intro gb356 hg w11 hb BK356 GW356 GE356; clear HB; intro HB; clear hb hg; obtain ⟨hcz12_0, hcz12_1, hfz12_0, hfz12_1⟩ := cz2 BK356)))
  go_ret
  exact ⟨by first | rfl | (simp [errW_none, errW_some] <;> rfl) | (simp [*, errW_none, errW_some] <;> rfl), (zb w)⟩

/-! ### order_QuantityFault: function 46 -/
def order_QuantityFault.f (k : Nat) (a0_0 : Int) (a0_1 : Int) (a1 : Bool) : Option (Int) := (amount_CheckDecimal.f a0_0 a0_1).bind fun t359 => (if t359 = 0 then ((order_within.f k a0_0 a0_1 3 1000000000).bind fun t360 => (if t360 = true then (if a0_0 = 0 then (if a1 = true then (some 0) else (some 1)) else (some 0)) else (some 1))) else (some t359))
theorem order_QuantityFault.mono : ∀ a0 a1 a2 k, LeO (order_QuantityFault.f k a0 a1 a2) (order_QuantityFault.f (k + 1) a0 a1 a2) := by
 intro a0 a1 a2 k
 unfold order_QuantityFault.f
 repeat' first | with_reducible first | exact order_within.mono _ _ _ _ _ | exact lr _ | exact ln _ | refine li ?_ ?_ | refine lb ?_ fun _ => ?_ | exact order_within.mono _ _ _ _ _ | exact ln _ | refine li ?_ ?_ | refine lb ?_ fun _ => ?_
set_option maxHeartbeats 8000000 in
set_option maxRecDepth 100000 in
theorem order_QuantityFault.calls (k : Nat) (a0_0 : Int) (a0_1 : Int) (a1 : Bool) (r : Int) (w : World) (h : order_QuantityFault.f k a0_0 a0_1 a1 = some r) :
  Calls Tryz.prog 46 #[.agg #[.int .i64 a0_0, .int .i64 a0_1], .bool a1] w fun e w' => e = .returned (.int .i64 r) ∧ Below w.heap.size w w' := by
 have hu39 := Tryz.underlying39
 have HB := Aside0.mk (Below.refl w.heap.size w)
 have H := h
 unfold order_QuantityFault.f at H
 clear h
 replace H := Option.bind_eq_some_iff.mp H
 obtain ⟨t359, A30, H⟩ := H
 try dsimp only at H
 have A3 := Aside0.mk A30
 clear A30
 by_cases c4 : t359 = 0
 ·rw [if_pos c4] at H
  have c4b0 : (t359 == 0) = true := beq_iff_eq.mpr c4
  have c4b1 : (t359 != 0) = false := bne_eq_false_iff_eq.mpr c4
  clear c4
  replace H := Option.bind_eq_some_iff.mp H
  obtain ⟨t360, A50, H⟩ := H
  try dsimp only at H
  have A5 := Aside0.mk A50
  clear A50
  by_cases c6 : t360 = true
  ·subst c6
   have H1 : (if a0_0 = 0 then (if a1 = true then (some 0) else (some 1)) else (some 0)) = some r := by rw [if_pos rfl] at H; exact H
   clear H
   have H := H1
   clear H1
   by_cases c7 : a0_0 = 0
   ·rw [if_pos c7] at H
    have c7b0 : (a0_0 == 0) = true := beq_iff_eq.mpr c7
    have c7b1 : (a0_0 != 0) = false := bne_eq_false_iff_eq.mpr c7
    clear c7
    by_cases c8 : a1 = true
    ·subst c8
     have H1 : (some 0) = some r := by rw [if_pos rfl] at H; exact H
     clear H
     have H := H1
     clear H1
     obtain rfl := Option.some.inj H
     go_enter Tryz.func46, Tryz.ntmps46
     go_wp2_with (first | ((with_reducible refine gD 2 rfl ?_); refine bx w 2 #[.int .i64 a0_0, .int .i64 a0_1] 39 ?_; intro gb358 hg w9 hb BK358 GW358 GE358; clear HB; intro HB; clear hb hg; obtain ⟨hcz10_0, hcz10_1, hfz10_0, hfz10_1⟩ := cz2 BK358) | ((with_reducible refine gC 70 rfl ?_); refine gl_ 7 Tryz.func70 #[.agg #[.int .i64 a0_0, .int .i64 a0_1]] ?_; (with_reducible refine (amount_CheckDecimal.calls a0_0 a0_1 t359 _ A3.out).mono ?_); rintro e w11 ⟨rfl, hb⟩; refine ⟨_, rfl, ?_⟩; replace BK358 := bb BK358 hb; replace HB := hs w hb; (try clear hb); obtain ⟨hcz12_0, hcz12_1, hfz12_0, hfz12_1⟩ := cz2 BK358) | ((with_reducible refine gC 71 rfl ?_); refine gl_ 12 Tryz.func71 #[.agg #[.int .i64 a0_0, .int .i64 a0_1], .int .i64 3, .int .i64 1000000000] ?_; (with_reducible refine (order_within.calls k a0_0 a0_1 3 1000000000 true _ A5.out).mono ?_); rintro e w13 ⟨rfl, hb⟩; refine ⟨_, rfl, ?_⟩; replace BK358 := bb BK358 hb; replace HB := hs w hb; (try clear hb); obtain ⟨hcz14_0, hcz14_1, hfz14_0, hfz14_1⟩ := cz2 BK358))
     go_ret
     exact ⟨by first | rfl | (simp [errW_none, errW_some] <;> rfl) | (simp [*, errW_none, errW_some] <;> rfl), (zb w)⟩
    ·replace c8 := Bool.eq_false_iff.mpr c8
     subst c8
     have H1 : (some 1) = some r := by rw [if_neg (show ¬ (false = true) by decide)] at H; exact H
     clear H
     have H := H1
     clear H1
     obtain rfl := Option.some.inj H
     go_enter Tryz.func46, Tryz.ntmps46
     go_wp2_with (first | ((with_reducible refine gD 2 rfl ?_); refine bx w 2 #[.int .i64 a0_0, .int .i64 a0_1] 39 ?_; intro gb358 hg w15 hb BK358 GW358 GE358; clear HB; intro HB; clear hb hg; obtain ⟨hcz16_0, hcz16_1, hfz16_0, hfz16_1⟩ := cz2 BK358) | ((with_reducible refine gC 70 rfl ?_); refine gl_ 7 Tryz.func70 #[.agg #[.int .i64 a0_0, .int .i64 a0_1]] ?_; (with_reducible refine (amount_CheckDecimal.calls a0_0 a0_1 t359 _ A3.out).mono ?_); rintro e w17 ⟨rfl, hb⟩; refine ⟨_, rfl, ?_⟩; replace BK358 := bb BK358 hb; replace HB := hs w hb; (try clear hb); obtain ⟨hcz18_0, hcz18_1, hfz18_0, hfz18_1⟩ := cz2 BK358) | ((with_reducible refine gC 71 rfl ?_); refine gl_ 12 Tryz.func71 #[.agg #[.int .i64 a0_0, .int .i64 a0_1], .int .i64 3, .int .i64 1000000000] ?_; (with_reducible refine (order_within.calls k a0_0 a0_1 3 1000000000 true _ A5.out).mono ?_); rintro e w19 ⟨rfl, hb⟩; refine ⟨_, rfl, ?_⟩; replace BK358 := bb BK358 hb; replace HB := hs w hb; (try clear hb); obtain ⟨hcz20_0, hcz20_1, hfz20_0, hfz20_1⟩ := cz2 BK358))
     go_ret
     exact ⟨by first | rfl | (simp [errW_none, errW_some] <;> rfl) | (simp [*, errW_none, errW_some] <;> rfl), (zb w)⟩
   ·rw [if_neg c7] at H
    have c7b0 : (a0_0 == 0) = false := beq_eq_false_iff_ne.mpr c7
    have c7b1 : (a0_0 != 0) = true := bne_iff_ne.mpr c7
    obtain rfl := Option.some.inj H
    go_enter Tryz.func46, Tryz.ntmps46
    go_wp2_with (first | ((with_reducible refine gD 2 rfl ?_); refine bx w 2 #[.int .i64 a0_0, .int .i64 a0_1] 39 ?_; intro gb358 hg w21 hb BK358 GW358 GE358; clear HB; intro HB; clear hb hg; obtain ⟨hcz22_0, hcz22_1, hfz22_0, hfz22_1⟩ := cz2 BK358) | ((with_reducible refine gC 70 rfl ?_); refine gl_ 7 Tryz.func70 #[.agg #[.int .i64 a0_0, .int .i64 a0_1]] ?_; (with_reducible refine (amount_CheckDecimal.calls a0_0 a0_1 t359 _ A3.out).mono ?_); rintro e w23 ⟨rfl, hb⟩; refine ⟨_, rfl, ?_⟩; replace BK358 := bb BK358 hb; replace HB := hs w hb; (try clear hb); obtain ⟨hcz24_0, hcz24_1, hfz24_0, hfz24_1⟩ := cz2 BK358) | ((with_reducible refine gC 71 rfl ?_); refine gl_ 12 Tryz.func71 #[.agg #[.int .i64 a0_0, .int .i64 a0_1], .int .i64 3, .int .i64 1000000000] ?_; (with_reducible refine (order_within.calls k a0_0 a0_1 3 1000000000 true _ A5.out).mono ?_); rintro e w25 ⟨rfl, hb⟩; refine ⟨_, rfl, ?_⟩; replace BK358 := bb BK358 hb; replace HB := hs w hb; (try clear hb); obtain ⟨hcz26_0, hcz26_1, hfz26_0, hfz26_1⟩ := cz2 BK358))
    go_ret
    exact ⟨by first | rfl | (simp [errW_none, errW_some] <;> rfl) | (simp [*, errW_none, errW_some] <;> rfl), (zb w)⟩
  ·replace c6 := Bool.eq_false_iff.mpr c6
   subst c6
   have H1 : (some 1) = some r := by rw [if_neg (show ¬ (false = true) by decide)] at H; exact H
   clear H
   have H := H1
   clear H1
   obtain rfl := Option.some.inj H
   go_enter Tryz.func46, Tryz.ntmps46
   go_wp2_with (first | ((with_reducible refine gD 2 rfl ?_); refine bx w 2 #[.int .i64 a0_0, .int .i64 a0_1] 39 ?_; intro gb358 hg w27 hb BK358 GW358 GE358; clear HB; intro HB; clear hb hg; obtain ⟨hcz28_0, hcz28_1, hfz28_0, hfz28_1⟩ := cz2 BK358) | ((with_reducible refine gC 70 rfl ?_); refine gl_ 7 Tryz.func70 #[.agg #[.int .i64 a0_0, .int .i64 a0_1]] ?_; (with_reducible refine (amount_CheckDecimal.calls a0_0 a0_1 t359 _ A3.out).mono ?_); rintro e w29 ⟨rfl, hb⟩; refine ⟨_, rfl, ?_⟩; replace BK358 := bb BK358 hb; replace HB := hs w hb; (try clear hb); obtain ⟨hcz30_0, hcz30_1, hfz30_0, hfz30_1⟩ := cz2 BK358) | ((with_reducible refine gC 71 rfl ?_); refine gl_ 12 Tryz.func71 #[.agg #[.int .i64 a0_0, .int .i64 a0_1], .int .i64 3, .int .i64 1000000000] ?_; (with_reducible refine (order_within.calls k a0_0 a0_1 3 1000000000 false _ A5.out).mono ?_); rintro e w31 ⟨rfl, hb⟩; refine ⟨_, rfl, ?_⟩; replace BK358 := bb BK358 hb; replace HB := hs w hb; (try clear hb)))
   go_ret
   exact ⟨by first | rfl | (simp [errW_none, errW_some] <;> rfl) | (simp [*, errW_none, errW_some] <;> rfl), (zb w)⟩
 ·rw [if_neg c4] at H
  have c4b0 : (t359 == 0) = false := beq_eq_false_iff_ne.mpr c4
  have c4b1 : (t359 != 0) = true := bne_iff_ne.mpr c4
  obtain rfl := Option.some.inj H
  go_enter Tryz.func46, Tryz.ntmps46
  go_wp2_with (first | ((with_reducible refine gD 2 rfl ?_); refine bx w 2 #[.int .i64 a0_0, .int .i64 a0_1] 39 ?_; intro gb358 hg w32 hb BK358 GW358 GE358; clear HB; intro HB; clear hb hg; obtain ⟨hcz33_0, hcz33_1, hfz33_0, hfz33_1⟩ := cz2 BK358) | ((with_reducible refine gC 70 rfl ?_); refine gl_ 7 Tryz.func70 #[.agg #[.int .i64 a0_0, .int .i64 a0_1]] ?_; (with_reducible refine (amount_CheckDecimal.calls a0_0 a0_1 t359 _ A3.out).mono ?_); rintro e w34 ⟨rfl, hb⟩; refine ⟨_, rfl, ?_⟩; replace BK358 := bb BK358 hb; replace HB := hs w hb; (try clear hb)))
  go_ret
  exact ⟨by first | rfl | (simp [errW_none, errW_some] <;> rfl) | (simp [*, errW_none, errW_some] <;> rfl), (zb w)⟩

end Go.Proofs.YthgefhnolmloiaaGreatDoor.P3
