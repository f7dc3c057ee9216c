-- Made by a program of this session out of the translation (wip/pp.py): functions, contracts.
import Derived.Test.YtaihfoihlbileaaDoorR4x0
import Derived.Test.YtaihfoihlbileaaDoorR4x9
namespace Go.Proofs.YtaihfoihlbileaaDoor.R4
open Go.RowKit Go.Proofs.YtaihfoihlbileaaDoorW.PrintWords Go.Proofs.YtaihfoihlbileaaDoorW.PrintLast Go.Proofs.YtaihfoihlbileaaDoorW.PrintMore
attribute [local go_sem] max2_int min2_int max_two min_two max_three min_three max_four min_four   -- for this text's walks alone
set_option linter.unusedVariables false
set_option linter.unusedSimpArgs false

/-! ### slices_Contains_string_string: function 43 -/
def slices_Contains_string_string.f (k : Nat) (l0 : List ByteArray) (a1 : ByteArray) : Option (Bool) := (slices_Index_string_string.f k l0 a1).bind fun t427 => (some (decide (t427 ≥ 0)))
theorem slices_Contains_string_string.mono : ∀ a0 a1 k, LeO (slices_Contains_string_string.f k a0 a1) (slices_Contains_string_string.f (k + 1) a0 a1) := by
 intro a0 a1 k
 unfold slices_Contains_string_string.f
 repeat' first | with_reducible first | exact slices_Index_string_string.mono _ _ _ | exact lr _ | exact ln _ | refine li ?_ ?_ | refine lb ?_ fun _ => ?_ | exact slices_Index_string_string.mono _ _ _ | exact ln _ | refine li ?_ ?_ | refine lb ?_ fun _ => ?_
set_option maxHeartbeats 8000000 in
set_option maxRecDepth 100000 in
theorem slices_Contains_string_string.calls (k : Nat) (A0 : Option Addr) (c0 : Nat) (l0 : List ByteArray) (a1 : ByteArray) (r : Bool) (w : World) (hr0 : Kd.C Kd.string w A0 l0.length l0) (hc0 : l0.length ≤ c0) (h : slices_Contains_string_string.f k l0 a1 = some r) :
  Calls Tryd.prog 43 #[.slice A0 l0.length c0, .string a1] w fun e w' => e = .returned (.bool r) ∧ Drawn0 w w' := by
 have HR0 := Aside0.mk hr0
 have HC0 := Aside0.mk hc0
 clear hr0 hc0
 have H := h
 unfold slices_Contains_string_string.f at H
 clear h
 replace H := Option.bind_eq_some_iff.mp H
 obtain ⟨t427, A30, H⟩ := H
 try dsimp only at H
 have A3 := Aside0.mk A30
 clear A30
 obtain rfl := Option.some.inj H
 go_enter Tryd.func43, Tryd.ntmps43
 go_wp2_with (first | ((with_reducible refine gC 59 rfl ?_); refine gl_ 7 Tryd.func59 #[.slice A0 l0.length c0, .string a1] ?_; (with_reducible refine (slices_Index_string_string.calls k _ _ l0 a1 t427 _ ?side1 HC0.out A3.out).mono ?_); (case side1 => exact zz); rintro e w' ⟨rfl, ⟨nd, rfl⟩⟩; refine ⟨_, rfl, ?_⟩))
 go_ret
 exact ⟨ar, dr⟩

/-! ### bill_CheckPayments: function 24 -/
mutual
def bill_CheckPayments.l0 : Nat → List (S35) → List (S35) → Int → Int → Option (Int)
 | 0, _, _, _, _ => none
 | k + 1, x0, x11, x12, x13 => if x13 < x12 then (if 0 ≤ x13 then (if x13 < (x11.length : Int) then ((kit_IsDay.f ((rd_T35 x11 x13).f0)).bind fun t430 => (if t430 = true then (if x13 > 0 then (if 0 ≤ (wrap64 (x13 - 1)) then (if (wrap64 (x13 - 1)) < (x0.length : Int) then (bill_CheckPayments.j1 k x0 x11 x12 x13 (decide (((rd_T35 x11 x13).f0) < ((rd_T35 x0 (wrap64 (x13 - 1))).f0))) ((rd_T35 x11 x13).f0) ((rd_T35 x11 x13).f1.f0) ((rd_T35 x11 x13).f1.f1) ((rd_T35 x11 x13).f2)) else (none)) else (none)) else (bill_CheckPayments.j1 k x0 x11 x12 x13 false ((rd_T35 x11 x13).f0) ((rd_T35 x11 x13).f1.f0) ((rd_T35 x11 x13).f1.f1) ((rd_T35 x11 x13).f2))) else (some 1))) else (none)) else (none)) else (some 0)
def bill_CheckPayments.j1 : Nat → List (S35) → List (S35) → Int → Int → Bool → Int → Int → Int → List ByteArray → Option (Int)
 | 0, _, _, _, _, _, _, _, _, _ => none
 | k + 1, x0, x11, x12, x13, x34, x430000, x430001, x430002, x430003 => if x34 = true then (some 8) else ((bill_moneyFault.f k x430001 x430002).bind fun t432 => (if t432 = 0 then (if (x430003.length : Int) > 100 then (some 2) else (bill_CheckPayments.l1 k x0 x11 x12 x13 x430003 (x430003.length : Int) 0 x430000 x430001 x430002 x430003)) else (some t432)))
def bill_CheckPayments.l1 : Nat → List (S35) → List (S35) → Int → Int → List ByteArray → Int → Int → Int → Int → Int → List ByteArray → Option (Int)
 | 0, _, _, _, _, _, _, _, _, _, _, _ => none
 | k + 1, x0, x11, x12, x13, x46, x47, x48, x430000, x430001, x430002, x430003 => if x48 < x47 then (if 0 ≤ x48 then (if x48 < (x46.length : Int) then ((kit_IsName.f (rdOf ByteArray.empty x46 x48)).bind fun t434 => (if t434 = true then (if x48 ≤ (x430003.length : Int) then ((slices_Contains_string_string.f k (x430003.take (x48 : Int).toNat) (rdOf ByteArray.empty x46 x48)).bind fun t436 => (if t436 = true then (some 7) else (bill_CheckPayments.l1 k x0 x11 x12 x13 x46 x47 (wrap64 (x48 + 1)) x430000 x430001 x430002 x430003))) else (none)) else (some 5))) else (none)) else (none)) else (bill_CheckPayments.l0 k x0 x11 x12 (wrap64 (x13 + 1)))
end
def bill_CheckPayments.f (k : Nat) (l0 : List (S35)) : Option (Int) := if (l0.length : Int) > 500 then (some 2) else (bill_CheckPayments.l0 k l0 l0 (l0.length : Int) 0)
theorem bill_CheckPayments.mono_l : ∀ k, (∀ y0 y1 y2 y3, LeO (bill_CheckPayments.l0 k y0 y1 y2 y3) (bill_CheckPayments.l0 (k + 1) y0 y1 y2 y3)) ∧ (∀ y0 y1 y2 y3 y4 y5 y6 y7 y8, LeO (bill_CheckPayments.j1 k y0 y1 y2 y3 y4 y5 y6 y7 y8) (bill_CheckPayments.j1 (k + 1) y0 y1 y2 y3 y4 y5 y6 y7 y8)) ∧ (∀ y0 y1 y2 y3 y4 y5 y6 y7 y8 y9 y10, LeO (bill_CheckPayments.l1 k y0 y1 y2 y3 y4 y5 y6 y7 y8 y9 y10) (bill_CheckPayments.l1 (k + 1) y0 y1 y2 y3 y4 y5 y6 y7 y8 y9 y10))
 | 0 => ⟨fun _ _ _ _ r h => by simp [bill_CheckPayments.l0] at h, fun _ _ _ _ _ _ _ _ _ r h => by simp [bill_CheckPayments.j1] at h, fun _ _ _ _ _ _ _ _ _ _ _ r h => by simp [bill_CheckPayments.l1] at h⟩
 | k + 1 => by
  obtain ⟨ih0, ih1, ih2⟩ := bill_CheckPayments.mono_l k
  refine ⟨?_, ?_, ?_⟩
  ·intro y0 y1 y2 y3
   unfold bill_CheckPayments.l0
   repeat' first | with_reducible first | exact ih0 _ _ _ _ | exact ih1 _ _ _ _ _ _ _ _ _ | exact ih2 _ _ _ _ _ _ _ _ _ _ _ | exact bill_moneyFault.mono _ _ _ | exact slices_Contains_string_string.mono _ _ _ | exact lr _ | exact ln _ | refine li ?_ ?_ | refine lb ?_ fun _ => ?_ | exact ih0 _ _ _ _ | exact ih1 _ _ _ _ _ _ _ _ _ | exact ih2 _ _ _ _ _ _ _ _ _ _ _ | exact bill_moneyFault.mono _ _ _ | exact slices_Contains_string_string.mono _ _ _ | exact ln _ | refine li ?_ ?_ | refine lb ?_ fun _ => ?_
  ·intro y0 y1 y2 y3 y4 y5 y6 y7 y8
   unfold bill_CheckPayments.j1
   repeat' first | with_reducible first | exact ih0 _ _ _ _ | exact ih1 _ _ _ _ _ _ _ _ _ | exact ih2 _ _ _ _ _ _ _ _ _ _ _ | exact bill_moneyFault.mono _ _ _ | exact slices_Contains_string_string.mono _ _ _ | exact lr _ | exact ln _ | refine li ?_ ?_ | refine lb ?_ fun _ => ?_ | exact ih0 _ _ _ _ | exact ih1 _ _ _ _ _ _ _ _ _ | exact ih2 _ _ _ _ _ _ _ _ _ _ _ | exact bill_moneyFault.mono _ _ _ | exact slices_Contains_string_string.mono _ _ _ | exact ln _ | refine li ?_ ?_ | refine lb ?_ fun _ => ?_
  ·intro y0 y1 y2 y3 y4 y5 y6 y7 y8 y9 y10
   unfold bill_CheckPayments.l1
   repeat' first | with_reducible first | exact ih0 _ _ _ _ | exact ih1 _ _ _ _ _ _ _ _ _ | exact ih2 _ _ _ _ _ _ _ _ _ _ _ | exact bill_moneyFault.mono _ _ _ | exact slices_Contains_string_string.mono _ _ _ | exact lr _ | exact ln _ | refine li ?_ ?_ | refine lb ?_ fun _ => ?_ | exact ih0 _ _ _ _ | exact ih1 _ _ _ _ _ _ _ _ _ | exact ih2 _ _ _ _ _ _ _ _ _ _ _ | exact bill_moneyFault.mono _ _ _ | exact slices_Contains_string_string.mono _ _ _ | exact ln _ | refine li ?_ ?_ | refine lb ?_ fun _ => ?_
theorem bill_CheckPayments.mono : ∀ a0 k, LeO (bill_CheckPayments.f k a0) (bill_CheckPayments.f (k + 1) a0) := by
 intro a0 k
 obtain ⟨ih0, ih1, ih2⟩ := bill_CheckPayments.mono_l k
 unfold bill_CheckPayments.f
 repeat' first | with_reducible first | exact ih0 _ _ _ _ | exact ih1 _ _ _ _ _ _ _ _ _ | exact ih2 _ _ _ _ _ _ _ _ _ _ _ | exact bill_moneyFault.mono _ _ _ | exact slices_Contains_string_string.mono _ _ _ | exact lr _ | exact ln _ | refine li ?_ ?_ | refine lb ?_ fun _ => ?_ | exact ih0 _ _ _ _ | exact ih1 _ _ _ _ _ _ _ _ _ | exact ih2 _ _ _ _ _ _ _ _ _ _ _ | exact bill_moneyFault.mono _ _ _ | exact slices_Contains_string_string.mono _ _ _ | exact ln _ | refine li ?_ ?_ | refine lb ?_ fun _ => ?_
set_option maxHeartbeats 8000000 in
set_option maxRecDepth 100000 in
theorem bill_CheckPayments.calls (k : Nat) (A0 : Option Addr) (c0 : Nat) (l0 : List (S35)) (r : Int) (w : World) (hr0 : Kd.C k35 w A0 l0.length l0) (hc0 : l0.length ≤ c0) (h : bill_CheckPayments.f k l0 = some r) :
  Calls Tryd.prog 24 #[.slice A0 l0.length c0] w fun e w' => e = .returned (.int .i64 r) ∧ Below w.heap.size w w' := by
 have hu35 := Tryd.underlying35
 have hu32 := Tryd.underlying32
 have HR0 := Aside0.mk hr0
 have HC0 := Aside0.mk hc0
 clear hr0 hc0
 have HB := Aside0.mk (Below.refl w.heap.size w)
 have H := h
 unfold bill_CheckPayments.f at H
 clear h
 by_cases c2 : (l0.length : Int) > 500
 ·rw [if_pos c2] at H
  have c2b0 : decide (500 < (l0.length : Int)) = true := decide_eq_true c2
  have c2b1 : decide (500 < l0.length) = true := decide_eq_true (by omega)
  clear c2
  obtain rfl := Option.some.inj H
  go_enter Tryd.func24, Tryd.ntmps24
  go_wp2
  repeat (go_quiet (fail); try go_wp2)
  go_ret
  exact ⟨by first | rfl | (simp [errW_none, errW_some] <;> rfl) | (simp [*, errW_none, errW_some] <;> rfl), (zb w)⟩
 ·rw [if_neg c2] at H
  have c2b0 : decide (500 < (l0.length : Int)) = false := decide_eq_false c2
  have c2b1 : decide (500 < l0.length) = false := decide_eq_false (by omega)
  clear c2
  have H' := Aside0.mk H
  clear H
  go_enter Tryd.func24, Tryd.ntmps24
  go_wp2
  repeat (go_quiet (fail); try go_wp2)
  try simp only [sq]
  go_loopg [13] k (fun kq v13 w' => ∃ (x13_1 : Int), v13 = .int .i64 x13_1 ∧ Aside0 (bill_CheckPayments.l0 kq l0 l0 (l0.length : Int) x13_1 = some r) ∧ Aside0 (kq ≤ k) ∧ Aside0 (Below w.heap.size w w'))
  case atStart => exact ⟨(0), ar, H', ⟨Nat.le_refl _⟩, ⟨(zb w)⟩⟩
  case round =>
   clear H'
   try clear c2
   try clear c2b0
   try clear c2b1
   try clear p2
   obtain ⟨x13_1, rfl, HA, HK1, HB⟩ := hrel
   cases gk with
   | zero => exact absurd HA.out (by simp [bill_CheckPayments.l0])
   | succ k1 =>
    have H := HA.out
    clear HA
    simp only [bill_CheckPayments.l0] at H
    by_cases c3 : x13_1 < (l0.length : Int)
    ·rw [if_pos c3] at H
     have c3b0 : decide (x13_1 < (l0.length : Int)) = true := decide_eq_true c3
     clear c3
     by_cases c4 : 0 ≤ x13_1
     ·rw [if_pos c4] at H
      have c4b0 : decide (0 ≤ x13_1) = true := decide_eq_true c4
      clear c4
      by_cases c5 : x13_1 < (l0.length : Int)
      ·rw [if_pos c5] at H
       have c5b0 : decide (x13_1 < (l0.length : Int)) = true := decide_eq_true c5
       clear c5
       replace H := Option.bind_eq_some_iff.mp H
       obtain ⟨t430, A60, H⟩ := H
       try dsimp only at H
       have A6 := Aside0.mk A60
       clear A60
       by_cases c7 : t430 = true
       ·subst c7
        have H1 : (if x13_1 > 0 then (if 0 ≤ (wrap64 (x13_1 - 1)) then (if (wrap64 (x13_1 - 1)) < (l0.length : Int) then (bill_CheckPayments.j1 k1 l0 l0 (l0.length : Int) x13_1 (decide (((rd_T35 l0 x13_1).f0) < ((rd_T35 l0 (wrap64 (x13_1 - 1))).f0))) ((rd_T35 l0 x13_1).f0) ((rd_T35 l0 x13_1).f1.f0) ((rd_T35 l0 x13_1).f1.f1) ((rd_T35 l0 x13_1).f2)) else (none)) else (none)) else (bill_CheckPayments.j1 k1 l0 l0 (l0.length : Int) x13_1 false ((rd_T35 l0 x13_1).f0) ((rd_T35 l0 x13_1).f1.f0) ((rd_T35 l0 x13_1).f1.f1) ((rd_T35 l0 x13_1).f2))) = some r := by rw [if_pos rfl] at H; exact H
        clear H
        have H := H1
        clear H1
        have HC8 := Aside0.mk H
        clear H
        have p428 : 0 ≤ (x13_1 : Int) := of_decide_eq_true (by assumption)
        have q428 : x13_1 < (l0.length : Int) := of_decide_eq_true (by assumption)
        obtain ⟨ad428, A428_3, c428_3, e428, hx428_0, hx428_1, hx428_2, hx428_3, hl428_3, hi428_3⟩ := at_T35 HR0.out x13_1 p428 q428
        cases e428
        replace hx428_0 := hz HB hx428_0
        replace hx428_1 := hz HB hx428_1
        replace hx428_2 := hz HB hx428_2
        replace hx428_3 := hz HB hx428_3
        have HR428_3 := Aside0.mk hi428_3
        have HC428_3 := Aside0.mk hl428_3
        clear hi428_3 hl428_3
        replace p428 := eq_true p428
        replace q428 := eq_true q428
        go_upto_region 8 with (first | ((with_reducible refine gD 4 rfl ?_); refine bx w 4 #[.int .i64 0, .int .i64 0, .int .i64 0, .slice none 0 0] 35 ?_; intro gb429 hg w9 hb BK429 GW429 GE429; clear HB; intro HB; clear hb hg; obtain ⟨hcz10_0, hcz10_1, hcz10_2, hcz10_3, hfz10_0, hfz10_1, hfz10_2, hfz10_3⟩ := cz4 BK429) | (go_at_call 19; (with_reducible refine (kit_IsDay.calls ((rd_T35 l0 x13_1).f0) true _ A6.out).mono ?_); rintro e w' ⟨rfl, ⟨nd, rfl⟩⟩; (try first | exact ⟨rfl, _, World.drewN_drewN _ _ _⟩ | exact ⟨rfl, _, Eq.trans (World.drewN_drewN _ _ _) (congrArg (World.drewN _) (Nat.add_assoc _ _ _))⟩)))
        repeat (go_quiet (first | ((with_reducible refine gD 4 rfl ?_); refine bx w 4 #[.int .i64 0, .int .i64 0, .int .i64 0, .slice none 0 0] 35 ?_; intro gb429 hg w9 hb BK429 GW429 GE429; clear HB; intro HB; clear hb hg; obtain ⟨hcz10_0, hcz10_1, hcz10_2, hcz10_3, hfz10_0, hfz10_1, hfz10_2, hfz10_3⟩ := cz4 BK429) | (go_at_call 19; (with_reducible refine (kit_IsDay.calls ((rd_T35 l0 x13_1).f0) true _ A6.out).mono ?_); rintro e w' ⟨rfl, ⟨nd, rfl⟩⟩; (try first | exact ⟨rfl, _, World.drewN_drewN _ _ _⟩ | exact ⟨rfl, _, Eq.trans (World.drewN_drewN _ _ _) (congrArg (World.drewN _) (Nat.add_assoc _ _ _))⟩))); go_upto_region 8 with (first | ((with_reducible refine gD 4 rfl ?_); refine bx w 4 #[.int .i64 0, .int .i64 0, .int .i64 0, .slice none 0 0] 35 ?_; intro gb429 hg w9 hb BK429 GW429 GE429; clear HB; intro HB; clear hb hg; obtain ⟨hcz10_0, hcz10_1, hcz10_2, hcz10_3, hfz10_0, hfz10_1, hfz10_2, hfz10_3⟩ := cz4 BK429) | (go_at_call 19; (with_reducible refine (kit_IsDay.calls ((rd_T35 l0 x13_1).f0) true _ A6.out).mono ?_); rintro e w' ⟨rfl, ⟨nd, rfl⟩⟩; (try first | exact ⟨rfl, _, World.drewN_drewN _ _ _⟩ | exact ⟨rfl, _, Eq.trans (World.drewN_drewN _ _ _) (congrArg (World.drewN _) (Nat.add_assoc _ _ _))⟩))))
        (try simp only [sq])
        go_cut [34] (fun v34 wc => ∃ (kq : Nat) (x34_7 : Bool), v34 = .bool x34_7 ∧ Aside0 (bill_CheckPayments.j1 kq l0 l0 (l0.length : Int) x13_1 x34_7 ((rd_T35 l0 x13_1).f0) ((rd_T35 l0 x13_1).f1.f0) ((rd_T35 l0 x13_1).f1.f1) ((rd_T35 l0 x13_1).f2) = some r) ∧ Aside0 (kq ≤ k1) ∧ Aside0 (wc.heap[gb429]? = some (.cells #[.int .i64 ((rd_T35 l0 x13_1).f0), .int .i64 ((rd_T35 l0 x13_1).f1.f0), .int .i64 ((rd_T35 l0 x13_1).f1.f1), (.slice A428_3 ((rd_T35 l0 x13_1).f2).length c428_3)] 35 (0, 0))) ∧ Aside0 (Below w.heap.size w wc))
        case first =>
         have H := HC8.out
         clear HC8
         by_cases c11 : x13_1 > 0
         ·rw [if_pos c11] at H
          have c11b0 : decide (0 < x13_1) = true := decide_eq_true c11
          clear c11
          (first | rw [c11b0] | (simp only [i64_w, i32_w]; rw [c11b0]) | skip)
          obtain ⟨ji12, hji12⟩ : ∃ j_ : Int, (wrap64 (x13_1 - 1)) = j_ := ⟨_, rfl⟩
          replace H : (if 0 ≤ (ji12) then (if (ji12) < (l0.length : Int) then (bill_CheckPayments.j1 k1 l0 l0 (l0.length : Int) x13_1 (decide (((rd_T35 l0 x13_1).f0) < ((rd_T35 l0 (ji12)).f0))) ((rd_T35 l0 x13_1).f0) ((rd_T35 l0 x13_1).f1.f0) ((rd_T35 l0 x13_1).f1.f1) ((rd_T35 l0 x13_1).f2)) else (none)) else (none)) = some r := by first | (rw [hji12] at H; exact H) | (simp only [hji12] at H ⊢; exact H)
          have hji12w : (IntKind.i64.wrap (x13_1 - 1)) = ji12 := (i64_w _).trans hji12
          by_cases c13 : 0 ≤ (ji12)
          ·rw [if_pos c13] at H
           have c13b0 : decide (0 ≤ (ji12)) = true := decide_eq_true c13
           clear c13
           by_cases c14 : (ji12) < (l0.length : Int)
           ·rw [if_pos c14] at H
            have c14b0 : decide ((ji12) < (l0.length : Int)) = true := decide_eq_true c14
            clear c14
            have H' := Aside0.mk H
            clear H
            obtain ⟨hcz15_0, hcz15_1, hcz15_2, hcz15_3, hfz15_0, hfz15_1, hfz15_2, hfz15_3⟩ := cz4 BK429
            have p431 : 0 ≤ ((ji12) : Int) := of_decide_eq_true (by assumption)
            have q431 : (ji12) < (l0.length : Int) := of_decide_eq_true (by assumption)
            obtain ⟨ad431, A431_3, c431_3, e431, hx431_0, hx431_1, hx431_2, hx431_3, hl431_3, hi431_3⟩ := at_T35 HR0.out (ji12) p431 q431
            obtain rfl : ad428 = ad431 := (by injection e431)
            have hn431_0 : ad428.block ≠ gb429 := Nat.ne_of_lt (Nat.lt_of_lt_of_le (by have := World.block_lt_of_cell? _ _ hx431_0; first | rwa [add_block] at this | exact this) GW429.out)
            have hn431_1 : ad428.block ≠ gb429 := Nat.ne_of_lt (Nat.lt_of_lt_of_le (by have := World.block_lt_of_cell? _ _ hx431_0; first | rwa [add_block] at this | exact this) GW429.out)
            have hn431_2 : ad428.block ≠ gb429 := Nat.ne_of_lt (Nat.lt_of_lt_of_le (by have := World.block_lt_of_cell? _ _ hx431_0; first | rwa [add_block] at this | exact this) GW429.out)
            have hn431_3 : ad428.block ≠ gb429 := Nat.ne_of_lt (Nat.lt_of_lt_of_le (by have := World.block_lt_of_cell? _ _ hx431_0; first | rwa [add_block] at this | exact this) GW429.out)
            replace hx431_0 := hz HB hx431_0
            replace hx431_1 := hz HB hx431_1
            replace hx431_2 := hz HB hx431_2
            replace hx431_3 := hz HB hx431_3
            have HR431_3 := Aside0.mk hi431_3
            have HC431_3 := Aside0.mk hl431_3
            clear hi431_3 hl431_3
            replace hx431_0 := (cell_far (p := ⟨gb429, 0, none⟩) (by first | (rw [add_block]; exact hn431_0) | (show (Addr.add _ _).block ≠ _; rw [add_block]; exact hn431_0) | exact hn431_0) (.int .i64 ((rd_T35 l0 x13_1).f0))).trans hx431_0
            replace hx431_1 := (cell_far (p := ⟨gb429, 0, none⟩) (by first | (rw [add_block]; exact hn431_0) | (show (Addr.add _ _).block ≠ _; rw [add_block]; exact hn431_0) | exact hn431_0) (.int .i64 ((rd_T35 l0 x13_1).f0))).trans hx431_1
            replace hx431_2 := (cell_far (p := ⟨gb429, 0, none⟩) (by first | (rw [add_block]; exact hn431_0) | (show (Addr.add _ _).block ≠ _; rw [add_block]; exact hn431_0) | exact hn431_0) (.int .i64 ((rd_T35 l0 x13_1).f0))).trans hx431_2
            replace hx431_3 := (cell_far (p := ⟨gb429, 0, none⟩) (by first | (rw [add_block]; exact hn431_0) | (show (Addr.add _ _).block ≠ _; rw [add_block]; exact hn431_0) | exact hn431_0) (.int .i64 ((rd_T35 l0 x13_1).f0))).trans hx431_3
            replace hx431_0 := (cell_far (p := ⟨gb429, 1, none⟩) (by first | (rw [add_block]; exact hn431_1) | (show (Addr.add _ _).block ≠ _; rw [add_block]; exact hn431_1) | exact hn431_1) (.int .i64 ((rd_T35 l0 x13_1).f1.f0))).trans hx431_0
            replace hx431_1 := (cell_far (p := ⟨gb429, 1, none⟩) (by first | (rw [add_block]; exact hn431_1) | (show (Addr.add _ _).block ≠ _; rw [add_block]; exact hn431_1) | exact hn431_1) (.int .i64 ((rd_T35 l0 x13_1).f1.f0))).trans hx431_1
            replace hx431_2 := (cell_far (p := ⟨gb429, 1, none⟩) (by first | (rw [add_block]; exact hn431_1) | (show (Addr.add _ _).block ≠ _; rw [add_block]; exact hn431_1) | exact hn431_1) (.int .i64 ((rd_T35 l0 x13_1).f1.f0))).trans hx431_2
            replace hx431_3 := (cell_far (p := ⟨gb429, 1, none⟩) (by first | (rw [add_block]; exact hn431_1) | (show (Addr.add _ _).block ≠ _; rw [add_block]; exact hn431_1) | exact hn431_1) (.int .i64 ((rd_T35 l0 x13_1).f1.f0))).trans hx431_3
            replace hx431_0 := (cell_far (p := ⟨gb429, 2, none⟩) (by first | (rw [add_block]; exact hn431_2) | (show (Addr.add _ _).block ≠ _; rw [add_block]; exact hn431_2) | exact hn431_2) (.int .i64 ((rd_T35 l0 x13_1).f1.f1))).trans hx431_0
            replace hx431_1 := (cell_far (p := ⟨gb429, 2, none⟩) (by first | (rw [add_block]; exact hn431_2) | (show (Addr.add _ _).block ≠ _; rw [add_block]; exact hn431_2) | exact hn431_2) (.int .i64 ((rd_T35 l0 x13_1).f1.f1))).trans hx431_1
            replace hx431_2 := (cell_far (p := ⟨gb429, 2, none⟩) (by first | (rw [add_block]; exact hn431_2) | (show (Addr.add _ _).block ≠ _; rw [add_block]; exact hn431_2) | exact hn431_2) (.int .i64 ((rd_T35 l0 x13_1).f1.f1))).trans hx431_2
            replace hx431_3 := (cell_far (p := ⟨gb429, 2, none⟩) (by first | (rw [add_block]; exact hn431_2) | (show (Addr.add _ _).block ≠ _; rw [add_block]; exact hn431_2) | exact hn431_2) (.int .i64 ((rd_T35 l0 x13_1).f1.f1))).trans hx431_3
            replace hx431_0 := (cell_far (p := ⟨gb429, 3, none⟩) (by first | (rw [add_block]; exact hn431_3) | (show (Addr.add _ _).block ≠ _; rw [add_block]; exact hn431_3) | exact hn431_3) (.slice A428_3 ((rd_T35 l0 x13_1).f2).length c428_3)).trans hx431_0
            replace hx431_1 := (cell_far (p := ⟨gb429, 3, none⟩) (by first | (rw [add_block]; exact hn431_3) | (show (Addr.add _ _).block ≠ _; rw [add_block]; exact hn431_3) | exact hn431_3) (.slice A428_3 ((rd_T35 l0 x13_1).f2).length c428_3)).trans hx431_1
            replace hx431_2 := (cell_far (p := ⟨gb429, 3, none⟩) (by first | (rw [add_block]; exact hn431_3) | (show (Addr.add _ _).block ≠ _; rw [add_block]; exact hn431_3) | exact hn431_3) (.slice A428_3 ((rd_T35 l0 x13_1).f2).length c428_3)).trans hx431_2
            replace hx431_3 := (cell_far (p := ⟨gb429, 3, none⟩) (by first | (rw [add_block]; exact hn431_3) | (show (Addr.add _ _).block ≠ _; rw [add_block]; exact hn431_3) | exact hn431_3) (.slice A428_3 ((rd_T35 l0 x13_1).f2).length c428_3)).trans hx431_3
            (try have hy431_0 := fun (n_ : Nat) => (show ((((((w9.drewN n_).setCell ⟨gb429, 0, none⟩ (.int .i64 ((rd_T35 l0 x13_1).f0))).setCell ⟨gb429, 1, none⟩ (.int .i64 ((rd_T35 l0 x13_1).f1.f0))).setCell ⟨gb429, 2, none⟩ (.int .i64 ((rd_T35 l0 x13_1).f1.f1))).setCell ⟨gb429, 3, none⟩ (.slice A428_3 ((rd_T35 l0 x13_1).f2).length c428_3))).cell? _ = some _ from hx431_0))
            (try have hy431_1 := fun (n_ : Nat) => (show ((((((w9.drewN n_).setCell ⟨gb429, 0, none⟩ (.int .i64 ((rd_T35 l0 x13_1).f0))).setCell ⟨gb429, 1, none⟩ (.int .i64 ((rd_T35 l0 x13_1).f1.f0))).setCell ⟨gb429, 2, none⟩ (.int .i64 ((rd_T35 l0 x13_1).f1.f1))).setCell ⟨gb429, 3, none⟩ (.slice A428_3 ((rd_T35 l0 x13_1).f2).length c428_3))).cell? _ = some _ from hx431_1))
            (try have hy431_2 := fun (n_ : Nat) => (show ((((((w9.drewN n_).setCell ⟨gb429, 0, none⟩ (.int .i64 ((rd_T35 l0 x13_1).f0))).setCell ⟨gb429, 1, none⟩ (.int .i64 ((rd_T35 l0 x13_1).f1.f0))).setCell ⟨gb429, 2, none⟩ (.int .i64 ((rd_T35 l0 x13_1).f1.f1))).setCell ⟨gb429, 3, none⟩ (.slice A428_3 ((rd_T35 l0 x13_1).f2).length c428_3))).cell? _ = some _ from hx431_2))
            (try have hy431_3 := fun (n_ : Nat) => (show ((((((w9.drewN n_).setCell ⟨gb429, 0, none⟩ (.int .i64 ((rd_T35 l0 x13_1).f0))).setCell ⟨gb429, 1, none⟩ (.int .i64 ((rd_T35 l0 x13_1).f1.f0))).setCell ⟨gb429, 2, none⟩ (.int .i64 ((rd_T35 l0 x13_1).f1.f1))).setCell ⟨gb429, 3, none⟩ (.slice A428_3 ((rd_T35 l0 x13_1).f2).length c428_3))).cell? _ = some _ from hx431_3))
            clear hn431_0
            clear hn431_1
            clear hn431_2
            clear hn431_3
            replace p431 := eq_true p431
            replace q431 := eq_true q431
            go_wp2
            repeat (go_quiet (fail); try go_wp2)
            go_meet
            case rel => exact ⟨_, (decide (((rd_T35 l0 x13_1).f0) < ((rd_T35 l0 (ji12)).f0))), (by first | rfl | (simp; done) | (simp only [← hji12] <;> (first | rfl | simp)) | (simp [*]; done)), H', ⟨by have := HK1.out; first | omega | exact Nat.le_refl _⟩, ⟨by (with_reducible repeat (first | refine blk_drewN ?_ _ | refine blk_drew ?_ | refine blk_alloc ?_ _)); refine blk_put (cs := #[.int .i64 ((rd_T35 l0 x13_1).f0), .int .i64 ((rd_T35 l0 x13_1).f1.f0), .int .i64 ((rd_T35 l0 x13_1).f1.f1), .slice none 0 0]) ?_ 3 _ rfl; (with_reducible repeat (first | refine blk_drewN ?_ _ | refine blk_drew ?_ | refine blk_alloc ?_ _)); refine blk_put (cs := #[.int .i64 ((rd_T35 l0 x13_1).f0), .int .i64 ((rd_T35 l0 x13_1).f1.f0), .int .i64 0, .slice none 0 0]) ?_ 2 _ rfl; (with_reducible repeat (first | refine blk_drewN ?_ _ | refine blk_drew ?_ | refine blk_alloc ?_ _)); refine blk_put (cs := #[.int .i64 ((rd_T35 l0 x13_1).f0), .int .i64 0, .int .i64 0, .slice none 0 0]) ?_ 1 _ rfl; (with_reducible repeat (first | refine blk_drewN ?_ _ | refine blk_drew ?_ | refine blk_alloc ?_ _)); refine blk_put (cs := #[.int .i64 0, .int .i64 0, .int .i64 0, .slice none 0 0]) ?_ 0 _ rfl; exact zk BK429⟩, ⟨(zb w)⟩⟩
           ·rw [if_neg c14] at H
            exact absurd H (by simp)
          ·rw [if_neg c13] at H
           exact absurd H (by simp)
         ·rw [if_neg c11] at H
          have c11b0 : decide (0 < x13_1) = false := decide_eq_false c11
          clear c11
          (first | rw [c11b0] | (simp only [i64_w, i32_w]; rw [c11b0]) | skip)
          have H' := Aside0.mk H
          clear H
          go_wp2
          repeat (go_quiet (fail); try go_wp2)
          go_meet
          case rel => exact ⟨_, (false), ar, H', ⟨by have := HK1.out; first | omega | exact Nat.le_refl _⟩, ⟨by (with_reducible repeat (first | refine blk_drewN ?_ _ | refine blk_drew ?_ | refine blk_alloc ?_ _)); refine blk_put (cs := #[.int .i64 ((rd_T35 l0 x13_1).f0), .int .i64 ((rd_T35 l0 x13_1).f1.f0), .int .i64 ((rd_T35 l0 x13_1).f1.f1), .slice none 0 0]) ?_ 3 _ rfl; (with_reducible repeat (first | refine blk_drewN ?_ _ | refine blk_drew ?_ | refine blk_alloc ?_ _)); refine blk_put (cs := #[.int .i64 ((rd_T35 l0 x13_1).f0), .int .i64 ((rd_T35 l0 x13_1).f1.f0), .int .i64 0, .slice none 0 0]) ?_ 2 _ rfl; (with_reducible repeat (first | refine blk_drewN ?_ _ | refine blk_drew ?_ | refine blk_alloc ?_ _)); refine blk_put (cs := #[.int .i64 ((rd_T35 l0 x13_1).f0), .int .i64 0, .int .i64 0, .slice none 0 0]) ?_ 1 _ rfl; (with_reducible repeat (first | refine blk_drewN ?_ _ | refine blk_drew ?_ | refine blk_alloc ?_ _)); refine blk_put (cs := #[.int .i64 0, .int .i64 0, .int .i64 0, .slice none 0 0]) ?_ 0 _ rfl; exact zk BK429⟩, ⟨(zb w)⟩⟩
        case rest =>
         clear HC8
         try clear c1
         try clear c2
         try clear c2b0
         try clear c2b1
         try clear p2
         try clear c3
         try clear c3b0
         try clear c4
         try clear c4b0
         try clear p4
         try clear q4
         try clear hx4
         try clear c5
         try clear c5b0
         try clear p6
         try clear c7
         try clear c11
         try clear c11b0
         try clear c13
         try clear c13b0
         try clear c14
         try clear c14b0
         try clear hcz10_0 hcz10_1 hcz10_2 hcz10_3
         try clear hcz15_0 hcz15_1 hcz15_2 hcz15_3
         try clear hfz10_0 hfz10_1 hfz10_2 hfz10_3
         try clear hfz15_0 hfz15_1 hfz15_2 hfz15_3
         try clear hx428_0
         try clear hx428_1
         try clear hx428_2
         try clear hx428_3
         try clear hx431_0
         try clear hx431_1
         try clear hx431_2
         try clear hx431_3
         try clear p2
         try clear p428
         try clear p431
         try clear q428
         try clear q431
         obtain ⟨kq, x34_7, rfl, HA, HJ7, BK429, HB⟩ := hcut
         cases kq with
         | zero => exact absurd HA.out (by simp [bill_CheckPayments.j1])
         | succ kj7 =>
          have H := HA.out
          clear HA
          simp only [bill_CheckPayments.j1] at H
          by_cases c16 : x34_7 = true
          ·subst c16
           have H1 : (some 8) = some r := by rw [if_pos rfl] at H; exact H
           clear H
           have H := H1
           clear H1
           obtain rfl := Option.some.inj H
           go_wp2
           repeat (go_quiet (fail); try go_wp2)
           go_ret
           exact ⟨by first | rfl | (simp [errW_none, errW_some] <;> rfl) | (simp [*, errW_none, errW_some] <;> rfl), (zb w)⟩
          ·replace c16 := Bool.eq_false_iff.mpr c16
           subst c16
           have H1 : ((bill_moneyFault.f kj7 ((rd_T35 l0 x13_1).f1.f0) ((rd_T35 l0 x13_1).f1.f1)).bind fun t432 => (if t432 = 0 then (if (((rd_T35 l0 x13_1).f2).length : Int) > 100 then (some 2) else (bill_CheckPayments.l1 kj7 l0 l0 (l0.length : Int) x13_1 ((rd_T35 l0 x13_1).f2) (((rd_T35 l0 x13_1).f2).length : Int) 0 ((rd_T35 l0 x13_1).f0) ((rd_T35 l0 x13_1).f1.f0) ((rd_T35 l0 x13_1).f1.f1) ((rd_T35 l0 x13_1).f2))) else (some t432))) = some r := by rw [if_neg (show ¬ (false = true) by decide)] at H; exact H
           clear H
           have H := H1
           clear H1
           replace H := Option.bind_eq_some_iff.mp H
           obtain ⟨t432, A170, H⟩ := H
           try dsimp only at H
           have A17 := Aside0.mk A170
           clear A170
           by_cases c18 : t432 = 0
           ·rw [if_pos c18] at H
            have c18b0 : (t432 == 0) = true := beq_iff_eq.mpr c18
            have c18b1 : (t432 != 0) = false := bne_eq_false_iff_eq.mpr c18
            clear c18
            by_cases c19 : (((rd_T35 l0 x13_1).f2).length : Int) > 100
            ·rw [if_pos c19] at H
             have c19b0 : decide (100 < (((rd_T35 l0 x13_1).f2).length : Int)) = true := decide_eq_true c19
             have c19b1 : decide (100 < ((rd_T35 l0 x13_1).f2).length) = true := decide_eq_true (by omega)
             clear c19
             obtain rfl := Option.some.inj H
             obtain ⟨hcz20_0, hcz20_1, hcz20_2, hcz20_3, hfz20_0, hfz20_1, hfz20_2, hfz20_3⟩ := cz4 BK429
             go_wp2_with (first | (go_at_call 42; (with_reducible refine (bill_moneyFault.calls kj7 ((rd_T35 l0 x13_1).f1.f0) ((rd_T35 l0 x13_1).f1.f1) t432 _ A17.out).mono ?_); rintro e w21 ⟨rfl, hb⟩; replace BK429 := bb BK429 hb; replace HB := hs w hb; (try clear hb); obtain ⟨hcz22_0, hcz22_1, hcz22_2, hcz22_3, hfz22_0, hfz22_1, hfz22_2, hfz22_3⟩ := cz4 BK429))
             repeat (go_quiet (first | (go_at_call 42; (with_reducible refine (bill_moneyFault.calls kj7 ((rd_T35 l0 x13_1).f1.f0) ((rd_T35 l0 x13_1).f1.f1) t432 _ A17.out).mono ?_); rintro e w21 ⟨rfl, hb⟩; replace BK429 := bb BK429 hb; replace HB := hs w hb; (try clear hb); obtain ⟨hcz22_0, hcz22_1, hcz22_2, hcz22_3, hfz22_0, hfz22_1, hfz22_2, hfz22_3⟩ := cz4 BK429)); try go_wp2_with (first | (go_at_call 42; (with_reducible refine (bill_moneyFault.calls kj7 ((rd_T35 l0 x13_1).f1.f0) ((rd_T35 l0 x13_1).f1.f1) t432 _ A17.out).mono ?_); rintro e w21 ⟨rfl, hb⟩; replace BK429 := bb BK429 hb; replace HB := hs w hb; (try clear hb); obtain ⟨hcz22_0, hcz22_1, hcz22_2, hcz22_3, hfz22_0, hfz22_1, hfz22_2, hfz22_3⟩ := cz4 BK429)))
             go_ret
             exact ⟨by first | rfl | (simp [errW_none, errW_some] <;> rfl) | (simp [*, errW_none, errW_some] <;> rfl), (zb w)⟩
            ·rw [if_neg c19] at H
             have c19b0 : decide (100 < (((rd_T35 l0 x13_1).f2).length : Int)) = false := decide_eq_false c19
             have c19b1 : decide (100 < ((rd_T35 l0 x13_1).f2).length) = false := decide_eq_false (by omega)
             clear c19
             have H' := Aside0.mk H
             clear H
             obtain ⟨hcz23_0, hcz23_1, hcz23_2, hcz23_3, hfz23_0, hfz23_1, hfz23_2, hfz23_3⟩ := cz4 BK429
             go_wp2_with (first | (go_at_call 42; (with_reducible refine (bill_moneyFault.calls kj7 ((rd_T35 l0 x13_1).f1.f0) ((rd_T35 l0 x13_1).f1.f1) t432 _ A17.out).mono ?_); rintro e w24 ⟨rfl, hb⟩; replace BK429 := bb BK429 hb; replace HB := hs w hb; (try clear hb); obtain ⟨hcz25_0, hcz25_1, hcz25_2, hcz25_3, hfz25_0, hfz25_1, hfz25_2, hfz25_3⟩ := cz4 BK429))
             repeat (go_quiet (first | (go_at_call 42; (with_reducible refine (bill_moneyFault.calls kj7 ((rd_T35 l0 x13_1).f1.f0) ((rd_T35 l0 x13_1).f1.f1) t432 _ A17.out).mono ?_); rintro e w24 ⟨rfl, hb⟩; replace BK429 := bb BK429 hb; replace HB := hs w hb; (try clear hb); obtain ⟨hcz25_0, hcz25_1, hcz25_2, hcz25_3, hfz25_0, hfz25_1, hfz25_2, hfz25_3⟩ := cz4 BK429)); try go_wp2_with (first | (go_at_call 42; (with_reducible refine (bill_moneyFault.calls kj7 ((rd_T35 l0 x13_1).f1.f0) ((rd_T35 l0 x13_1).f1.f1) t432 _ A17.out).mono ?_); rintro e w24 ⟨rfl, hb⟩; replace BK429 := bb BK429 hb; replace HB := hs w hb; (try clear hb); obtain ⟨hcz25_0, hcz25_1, hcz25_2, hcz25_3, hfz25_0, hfz25_1, hfz25_2, hfz25_3⟩ := cz4 BK429)))
             try simp only [sq]
             go_loopg [48] kj7 (fun kq v48 w' => ∃ (x48_3 : Int), v48 = .int .i64 x48_3 ∧ Aside0 (bill_CheckPayments.l1 kq l0 l0 (l0.length : Int) x13_1 ((rd_T35 l0 x13_1).f2) (((rd_T35 l0 x13_1).f2).length : Int) x48_3 ((rd_T35 l0 x13_1).f0) ((rd_T35 l0 x13_1).f1.f0) ((rd_T35 l0 x13_1).f1.f1) ((rd_T35 l0 x13_1).f2) = some r) ∧ Aside0 (kq ≤ kj7) ∧ Aside0 (w'.heap[gb429]? = some (.cells #[.int .i64 ((rd_T35 l0 x13_1).f0), .int .i64 ((rd_T35 l0 x13_1).f1.f0), .int .i64 ((rd_T35 l0 x13_1).f1.f1), (.slice A428_3 ((rd_T35 l0 x13_1).f2).length c428_3)] 35 (0, 0))) ∧ Aside0 (Below w.heap.size w w'))
             case atStart => exact ⟨(0), ar, H', ⟨Nat.le_refl _⟩, ⟨(zk BK429)⟩, ⟨(zb w)⟩⟩
             case round =>
              clear H'
              try clear c1
              try clear c2
              try clear c2b0
              try clear c2b1
              try clear p2
              try clear c3
              try clear c3b0
              try clear c4
              try clear c4b0
              try clear p4
              try clear q4
              try clear hx4
              try clear c5
              try clear c5b0
              try clear p6
              try clear c7
              try clear c11
              try clear c11b0
              try clear c13
              try clear c13b0
              try clear c14
              try clear c14b0
              try clear c16
              try clear c18
              try clear c18b0
              try clear c18b1
              try clear c19
              try clear c19b0
              try clear c19b1
              try clear c24
              try clear hcz10_0 hcz10_1 hcz10_2 hcz10_3
              try clear hcz15_0 hcz15_1 hcz15_2 hcz15_3
              try clear hcz20_0 hcz20_1 hcz20_2 hcz20_3
              try clear hcz22_0 hcz22_1 hcz22_2 hcz22_3
              try clear hcz23_0 hcz23_1 hcz23_2 hcz23_3
              try clear hcz25_0 hcz25_1 hcz25_2 hcz25_3
              try clear hfz10_0 hfz10_1 hfz10_2 hfz10_3
              try clear hfz15_0 hfz15_1 hfz15_2 hfz15_3
              try clear hfz20_0 hfz20_1 hfz20_2 hfz20_3
              try clear hfz22_0 hfz22_1 hfz22_2 hfz22_3
              try clear hfz23_0 hfz23_1 hfz23_2 hfz23_3
              try clear hfz25_0 hfz25_1 hfz25_2 hfz25_3
              try clear hx428_0
              try clear hx428_1
              try clear hx428_2
              try clear hx428_3
              try clear hx431_0
              try clear hx431_1
              try clear hx431_2
              try clear hx431_3
              try clear p2
              try clear p4
              try clear p428
              try clear p431
              try clear p6
              try clear q4
              try clear q428
              try clear q431
              obtain ⟨x48_3, rfl, HA, HK3, BK429, HB⟩ := hrel
              cases gk with
              | zero => exact absurd HA.out (by simp [bill_CheckPayments.l1])
              | succ k3 =>
               have H := HA.out
               clear HA
               simp only [bill_CheckPayments.l1] at H
               by_cases c26 : x48_3 < (((rd_T35 l0 x13_1).f2).length : Int)
               ·rw [if_pos c26] at H
                have c26b0 : decide (x48_3 < (((rd_T35 l0 x13_1).f2).length : Int)) = true := decide_eq_true c26
                clear c26
                by_cases c27 : 0 ≤ x48_3
                ·rw [if_pos c27] at H
                 have c27b0 : decide (0 ≤ x48_3) = true := decide_eq_true c27
                 clear c27
                 by_cases c28 : x48_3 < (((rd_T35 l0 x13_1).f2).length : Int)
                 ·rw [if_pos c28] at H
                  have c28b0 : decide (x48_3 < (((rd_T35 l0 x13_1).f2).length : Int)) = true := decide_eq_true c28
                  clear c28
                  replace H := Option.bind_eq_some_iff.mp H
                  obtain ⟨t434, A290, H⟩ := H
                  try dsimp only at H
                  have A29 := Aside0.mk A290
                  clear A290
                  by_cases c30 : t434 = true
                  ·subst c30
                   have H1 : (if x48_3 ≤ (((rd_T35 l0 x13_1).f2).length : Int) then ((slices_Contains_string_string.f k3 (((rd_T35 l0 x13_1).f2).take (x48_3 : Int).toNat) (rdOf ByteArray.empty ((rd_T35 l0 x13_1).f2) x48_3)).bind fun t436 => (if t436 = true then (some 7) else (bill_CheckPayments.l1 k3 l0 l0 (l0.length : Int) x13_1 ((rd_T35 l0 x13_1).f2) (((rd_T35 l0 x13_1).f2).length : Int) (wrap64 (x48_3 + 1)) ((rd_T35 l0 x13_1).f0) ((rd_T35 l0 x13_1).f1.f0) ((rd_T35 l0 x13_1).f1.f1) ((rd_T35 l0 x13_1).f2)))) else (none)) = some r := by rw [if_pos rfl] at H; exact H
                   clear H
                   have H := H1
                   clear H1
                   have c31b0 := eq_true (of_decide_eq_true (by assumption) : 0 ≤ x48_3)
                   by_cases c32 : x48_3 ≤ (((rd_T35 l0 x13_1).f2).length : Int)
                   ·rw [if_pos c32] at H
                    have c32b0 := eq_true c32
                    have c32b1 : decide (x48_3 ≤ (((rd_T35 l0 x13_1).f2).length : Int)) = true := decide_eq_true c32
                    clear c32
                    replace H := Option.bind_eq_some_iff.mp H
                    obtain ⟨t436, A330, H⟩ := H
                    try dsimp only at H
                    have A33 := Aside0.mk A330
                    clear A330
                    by_cases c34 : t436 = true
                    ·subst c34
                     have H1 : (some 7) = some r := by rw [if_pos rfl] at H; exact H
                     clear H
                     have H := H1
                     clear H1
                     obtain rfl := Option.some.inj H
                     have p433 : 0 ≤ (x48_3 : Int) := of_decide_eq_true (by assumption)
                     have q433 : x48_3 < (((rd_T35 l0 x13_1).f2).length : Int) := of_decide_eq_true (by assumption)
                     obtain ⟨ad433, e433, hx433_0⟩ := Kd.at_string HR428_3.out x48_3 p433 q433
                     cases e433
                     replace hx433_0 := hz HB hx433_0
                     replace p433 := eq_true p433
                     replace q433 := eq_true q433
                     go_wp2_with (first | (go_at_call 39; (with_reducible refine (kit_IsName.calls (rdOf ByteArray.empty ((rd_T35 l0 x13_1).f2) x48_3) true _ A29.out).mono ?_); rintro e w35 ⟨rfl, hb⟩; replace BK429 := bb BK429 hb; replace HB := hs w hb; (try clear hb); obtain ⟨hcz36_0, hcz36_1, hcz36_2, hcz36_3, hfz36_0, hfz36_1, hfz36_2, hfz36_3⟩ := cz4 BK429; obtain ⟨i037, hi037, _, hsz37, _⟩ := info_parts info9; obtain ⟨hcut37, hA37, hC37⟩ := print_take_of (P := Tryd.prog) Value.string (⟨#[]⟩ : ByteArray) 33 9 .i64 Tryd.underlying33 hi037 hsz37 (some ad433) c428_3 ((rd_T35 l0 x13_1).f2) x48_3 (of_decide_eq_true (by assumption)) (of_decide_eq_true (by assumption)) HC428_3.out; have HR435 := Aside0.mk (Kd.C_of_reads (h1 := fun _ => rfl) (hA37 _ (Kd.reads_of_C HR428_3.out))); have HC435 := Aside0.mk hC37; clear hA37 hC37 hi037 hsz37) | (go_at_call 43; refine calls_of_args (args' := #[.slice (some ad433) (((rd_T35 l0 x13_1).f2).take (x48_3 : Int).toNat).length c428_3, .string (rdOf ByteArray.empty ((rd_T35 l0 x13_1).f2) x48_3)]) (by first | (rw [show (((rd_T35 l0 x13_1).f2).take (x48_3 : Int).toNat).length = x48_3.toNat from (by rw [List.length_take]; have h_ : (x48_3 : Int) ≤ (((rd_T35 l0 x13_1).f2).length : Int) := of_decide_eq_true (by assumption); omega)] <;> rfl) | rfl) ?_; (with_reducible refine (slices_Contains_string_string.calls k3 _ _ (((rd_T35 l0 x13_1).f2).take (x48_3 : Int).toNat) (rdOf ByteArray.empty ((rd_T35 l0 x13_1).f2) x48_3) true _ ?side1 HC435.out A33.out).mono ?_); (case side1 => exact zc HR435); rintro e w' ⟨rfl, ⟨nd, rfl⟩⟩; (try first | exact ⟨rfl, _, World.drewN_drewN _ _ _⟩ | exact ⟨rfl, _, Eq.trans (World.drewN_drewN _ _ _) (congrArg (World.drewN _) (Nat.add_assoc _ _ _))⟩)))
                     repeat (go_quiet (first | (go_at_call 39; (with_reducible refine (kit_IsName.calls (rdOf ByteArray.empty ((rd_T35 l0 x13_1).f2) x48_3) true _ A29.out).mono ?_); rintro e w35 ⟨rfl, hb⟩; replace BK429 := bb BK429 hb; replace HB := hs w hb; (try clear hb); obtain ⟨hcz36_0, hcz36_1, hcz36_2, hcz36_3, hfz36_0, hfz36_1, hfz36_2, hfz36_3⟩ := cz4 BK429; obtain ⟨i037, hi037, _, hsz37, _⟩ := info_parts info9; obtain ⟨hcut37, hA37, hC37⟩ := print_take_of (P := Tryd.prog) Value.string (⟨#[]⟩ : ByteArray) 33 9 .i64 Tryd.underlying33 hi037 hsz37 (some ad433) c428_3 ((rd_T35 l0 x13_1).f2) x48_3 (of_decide_eq_true (by assumption)) (of_decide_eq_true (by assumption)) HC428_3.out; have HR435 := Aside0.mk (Kd.C_of_reads (h1 := fun _ => rfl) (hA37 _ (Kd.reads_of_C HR428_3.out))); have HC435 := Aside0.mk hC37; clear hA37 hC37 hi037 hsz37) | (go_at_call 43; refine calls_of_args (args' := #[.slice (some ad433) (((rd_T35 l0 x13_1).f2).take (x48_3 : Int).toNat).length c428_3, .string (rdOf ByteArray.empty ((rd_T35 l0 x13_1).f2) x48_3)]) (by first | (rw [show (((rd_T35 l0 x13_1).f2).take (x48_3 : Int).toNat).length = x48_3.toNat from (by rw [List.length_take]; have h_ : (x48_3 : Int) ≤ (((rd_T35 l0 x13_1).f2).length : Int) := of_decide_eq_true (by assumption); omega)] <;> rfl) | rfl) ?_; (with_reducible refine (slices_Contains_string_string.calls k3 _ _ (((rd_T35 l0 x13_1).f2).take (x48_3 : Int).toNat) (rdOf ByteArray.empty ((rd_T35 l0 x13_1).f2) x48_3) true _ ?side1 HC435.out A33.out).mono ?_); (case side1 => exact zc HR435); rintro e w' ⟨rfl, ⟨nd, rfl⟩⟩; (try first | exact ⟨rfl, _, World.drewN_drewN _ _ _⟩ | exact ⟨rfl, _, Eq.trans (World.drewN_drewN _ _ _) (congrArg (World.drewN _) (Nat.add_assoc _ _ _))⟩))); try go_wp2_with (first | (go_at_call 39; (with_reducible refine (kit_IsName.calls (rdOf ByteArray.empty ((rd_T35 l0 x13_1).f2) x48_3) true _ A29.out).mono ?_); rintro e w35 ⟨rfl, hb⟩; replace BK429 := bb BK429 hb; replace HB := hs w hb; (try clear hb); obtain ⟨hcz36_0, hcz36_1, hcz36_2, hcz36_3, hfz36_0, hfz36_1, hfz36_2, hfz36_3⟩ := cz4 BK429; obtain ⟨i037, hi037, _, hsz37, _⟩ := info_parts info9; obtain ⟨hcut37, hA37, hC37⟩ := print_take_of (P := Tryd.prog) Value.string (⟨#[]⟩ : ByteArray) 33 9 .i64 Tryd.underlying33 hi037 hsz37 (some ad433) c428_3 ((rd_T35 l0 x13_1).f2) x48_3 (of_decide_eq_true (by assumption)) (of_decide_eq_true (by assumption)) HC428_3.out; have HR435 := Aside0.mk (Kd.C_of_reads (h1 := fun _ => rfl) (hA37 _ (Kd.reads_of_C HR428_3.out))); have HC435 := Aside0.mk hC37; clear hA37 hC37 hi037 hsz37) | (go_at_call 43; refine calls_of_args (args' := #[.slice (some ad433) (((rd_T35 l0 x13_1).f2).take (x48_3 : Int).toNat).length c428_3, .string (rdOf ByteArray.empty ((rd_T35 l0 x13_1).f2) x48_3)]) (by first | (rw [show (((rd_T35 l0 x13_1).f2).take (x48_3 : Int).toNat).length = x48_3.toNat from (by rw [List.length_take]; have h_ : (x48_3 : Int) ≤ (((rd_T35 l0 x13_1).f2).length : Int) := of_decide_eq_true (by assumption); omega)] <;> rfl) | rfl) ?_; (with_reducible refine (slices_Contains_string_string.calls k3 _ _ (((rd_T35 l0 x13_1).f2).take (x48_3 : Int).toNat) (rdOf ByteArray.empty ((rd_T35 l0 x13_1).f2) x48_3) true _ ?side1 HC435.out A33.out).mono ?_); (case side1 => exact zc HR435); rintro e w' ⟨rfl, ⟨nd, rfl⟩⟩; (try first | exact ⟨rfl, _, World.drewN_drewN _ _ _⟩ | exact ⟨rfl, _, Eq.trans (World.drewN_drewN _ _ _) (congrArg (World.drewN _) (Nat.add_assoc _ _ _))⟩))))
                     go_ret
                     exact ⟨by first | rfl | (simp [errW_none, errW_some] <;> rfl) | (simp [*, errW_none, errW_some] <;> rfl), (zb w)⟩
                    ·replace c34 := Bool.eq_false_iff.mpr c34
                     subst c34
                     have H1 : (bill_CheckPayments.l1 k3 l0 l0 (l0.length : Int) x13_1 ((rd_T35 l0 x13_1).f2) (((rd_T35 l0 x13_1).f2).length : Int) (wrap64 (x48_3 + 1)) ((rd_T35 l0 x13_1).f0) ((rd_T35 l0 x13_1).f1.f0) ((rd_T35 l0 x13_1).f1.f1) ((rd_T35 l0 x13_1).f2)) = some r := by rw [if_neg (show ¬ (false = true) by decide)] at H; exact H
                     clear H
                     have H := H1
                     clear H1
                     have H' := Aside0.mk H
                     clear H
                     have p433 : 0 ≤ (x48_3 : Int) := of_decide_eq_true (by assumption)
                     have q433 : x48_3 < (((rd_T35 l0 x13_1).f2).length : Int) := of_decide_eq_true (by assumption)
                     obtain ⟨ad433, e433, hx433_0⟩ := Kd.at_string HR428_3.out x48_3 p433 q433
                     cases e433
                     replace hx433_0 := hz HB hx433_0
                     replace p433 := eq_true p433
                     replace q433 := eq_true q433
                     go_wp2_with (first | (go_at_call 39; (with_reducible refine (kit_IsName.calls (rdOf ByteArray.empty ((rd_T35 l0 x13_1).f2) x48_3) true _ A29.out).mono ?_); rintro e w38 ⟨rfl, hb⟩; replace BK429 := bb BK429 hb; replace HB := hs w hb; (try clear hb); obtain ⟨hcz39_0, hcz39_1, hcz39_2, hcz39_3, hfz39_0, hfz39_1, hfz39_2, hfz39_3⟩ := cz4 BK429; obtain ⟨i040, hi040, _, hsz40, _⟩ := info_parts info9; obtain ⟨hcut40, hA40, hC40⟩ := print_take_of (P := Tryd.prog) Value.string (⟨#[]⟩ : ByteArray) 33 9 .i64 Tryd.underlying33 hi040 hsz40 (some ad433) c428_3 ((rd_T35 l0 x13_1).f2) x48_3 (of_decide_eq_true (by assumption)) (of_decide_eq_true (by assumption)) HC428_3.out; have HR435 := Aside0.mk (Kd.C_of_reads (h1 := fun _ => rfl) (hA40 _ (Kd.reads_of_C HR428_3.out))); have HC435 := Aside0.mk hC40; clear hA40 hC40 hi040 hsz40) | (go_at_call 43; refine calls_of_args (args' := #[.slice (some ad433) (((rd_T35 l0 x13_1).f2).take (x48_3 : Int).toNat).length c428_3, .string (rdOf ByteArray.empty ((rd_T35 l0 x13_1).f2) x48_3)]) (by first | (rw [show (((rd_T35 l0 x13_1).f2).take (x48_3 : Int).toNat).length = x48_3.toNat from (by rw [List.length_take]; have h_ : (x48_3 : Int) ≤ (((rd_T35 l0 x13_1).f2).length : Int) := of_decide_eq_true (by assumption); omega)] <;> rfl) | rfl) ?_; (with_reducible refine (slices_Contains_string_string.calls k3 _ _ (((rd_T35 l0 x13_1).f2).take (x48_3 : Int).toNat) (rdOf ByteArray.empty ((rd_T35 l0 x13_1).f2) x48_3) false _ ?side1 HC435.out A33.out).mono ?_); (case side1 => exact zc HR435); rintro e w' ⟨rfl, ⟨nd, rfl⟩⟩; (try first | exact ⟨rfl, _, World.drewN_drewN _ _ _⟩ | exact ⟨rfl, _, Eq.trans (World.drewN_drewN _ _ _) (congrArg (World.drewN _) (Nat.add_assoc _ _ _))⟩)))
                     repeat (go_quiet (first | (go_at_call 39; (with_reducible refine (kit_IsName.calls (rdOf ByteArray.empty ((rd_T35 l0 x13_1).f2) x48_3) true _ A29.out).mono ?_); rintro e w38 ⟨rfl, hb⟩; replace BK429 := bb BK429 hb; replace HB := hs w hb; (try clear hb); obtain ⟨hcz39_0, hcz39_1, hcz39_2, hcz39_3, hfz39_0, hfz39_1, hfz39_2, hfz39_3⟩ := cz4 BK429; obtain ⟨i040, hi040, _, hsz40, _⟩ := info_parts info9; obtain ⟨hcut40, hA40, hC40⟩ := print_take_of (P := Tryd.prog) Value.string (⟨#[]⟩ : ByteArray) 33 9 .i64 Tryd.underlying33 hi040 hsz40 (some ad433) c428_3 ((rd_T35 l0 x13_1).f2) x48_3 (of_decide_eq_true (by assumption)) (of_decide_eq_true (by assumption)) HC428_3.out; have HR435 := Aside0.mk (Kd.C_of_reads (h1 := fun _ => rfl) (hA40 _ (Kd.reads_of_C HR428_3.out))); have HC435 := Aside0.mk hC40; clear hA40 hC40 hi040 hsz40) | (go_at_call 43; refine calls_of_args (args' := #[.slice (some ad433) (((rd_T35 l0 x13_1).f2).take (x48_3 : Int).toNat).length c428_3, .string (rdOf ByteArray.empty ((rd_T35 l0 x13_1).f2) x48_3)]) (by first | (rw [show (((rd_T35 l0 x13_1).f2).take (x48_3 : Int).toNat).length = x48_3.toNat from (by rw [List.length_take]; have h_ : (x48_3 : Int) ≤ (((rd_T35 l0 x13_1).f2).length : Int) := of_decide_eq_true (by assumption); omega)] <;> rfl) | rfl) ?_; (with_reducible refine (slices_Contains_string_string.calls k3 _ _ (((rd_T35 l0 x13_1).f2).take (x48_3 : Int).toNat) (rdOf ByteArray.empty ((rd_T35 l0 x13_1).f2) x48_3) false _ ?side1 HC435.out A33.out).mono ?_); (case side1 => exact zc HR435); rintro e w' ⟨rfl, ⟨nd, rfl⟩⟩; (try first | exact ⟨rfl, _, World.drewN_drewN _ _ _⟩ | exact ⟨rfl, _, Eq.trans (World.drewN_drewN _ _ _) (congrArg (World.drewN _) (Nat.add_assoc _ _ _))⟩))); try go_wp2_with (first | (go_at_call 39; (with_reducible refine (kit_IsName.calls (rdOf ByteArray.empty ((rd_T35 l0 x13_1).f2) x48_3) true _ A29.out).mono ?_); rintro e w38 ⟨rfl, hb⟩; replace BK429 := bb BK429 hb; replace HB := hs w hb; (try clear hb); obtain ⟨hcz39_0, hcz39_1, hcz39_2, hcz39_3, hfz39_0, hfz39_1, hfz39_2, hfz39_3⟩ := cz4 BK429; obtain ⟨i040, hi040, _, hsz40, _⟩ := info_parts info9; obtain ⟨hcut40, hA40, hC40⟩ := print_take_of (P := Tryd.prog) Value.string (⟨#[]⟩ : ByteArray) 33 9 .i64 Tryd.underlying33 hi040 hsz40 (some ad433) c428_3 ((rd_T35 l0 x13_1).f2) x48_3 (of_decide_eq_true (by assumption)) (of_decide_eq_true (by assumption)) HC428_3.out; have HR435 := Aside0.mk (Kd.C_of_reads (h1 := fun _ => rfl) (hA40 _ (Kd.reads_of_C HR428_3.out))); have HC435 := Aside0.mk hC40; clear hA40 hC40 hi040 hsz40) | (go_at_call 43; refine calls_of_args (args' := #[.slice (some ad433) (((rd_T35 l0 x13_1).f2).take (x48_3 : Int).toNat).length c428_3, .string (rdOf ByteArray.empty ((rd_T35 l0 x13_1).f2) x48_3)]) (by first | (rw [show (((rd_T35 l0 x13_1).f2).take (x48_3 : Int).toNat).length = x48_3.toNat from (by rw [List.length_take]; have h_ : (x48_3 : Int) ≤ (((rd_T35 l0 x13_1).f2).length : Int) := of_decide_eq_true (by assumption); omega)] <;> rfl) | rfl) ?_; (with_reducible refine (slices_Contains_string_string.calls k3 _ _ (((rd_T35 l0 x13_1).f2).take (x48_3 : Int).toNat) (rdOf ByteArray.empty ((rd_T35 l0 x13_1).f2) x48_3) false _ ?side1 HC435.out A33.out).mono ?_); (case side1 => exact zc HR435); rintro e w' ⟨rfl, ⟨nd, rfl⟩⟩; (try first | exact ⟨rfl, _, World.drewN_drewN _ _ _⟩ | exact ⟨rfl, _, Eq.trans (World.drewN_drewN _ _ _) (congrArg (World.drewN _) (Nat.add_assoc _ _ _))⟩))))
                     go_roundg k3
                     case measure => have := HK1.out; have := HJ7.out; have := HK3.out; omega
                     case rel => exact ⟨(wrap64 (x48_3 + 1)), ar, H', ⟨by have := HK1.out; have := HJ7.out; have := HK3.out; omega⟩, ⟨(zk BK429)⟩, ⟨(zb w)⟩⟩
                   ·rw [if_neg c32] at H
                    exact absurd H (by simp)
                  ·replace c30 := Bool.eq_false_iff.mpr c30
                   subst c30
                   have H1 : (some 5) = some r := by rw [if_neg (show ¬ (false = true) by decide)] at H; exact H
                   clear H
                   have H := H1
                   clear H1
                   obtain rfl := Option.some.inj H
                   have p433 : 0 ≤ (x48_3 : Int) := of_decide_eq_true (by assumption)
                   have q433 : x48_3 < (((rd_T35 l0 x13_1).f2).length : Int) := of_decide_eq_true (by assumption)
                   obtain ⟨ad433, e433, hx433_0⟩ := Kd.at_string HR428_3.out x48_3 p433 q433
                   cases e433
                   replace hx433_0 := hz HB hx433_0
                   replace p433 := eq_true p433
                   replace q433 := eq_true q433
                   go_wp2_with (first | (go_at_call 39; (with_reducible refine (kit_IsName.calls (rdOf ByteArray.empty ((rd_T35 l0 x13_1).f2) x48_3) false _ A29.out).mono ?_); rintro e w41 ⟨rfl, hb⟩; replace BK429 := bb BK429 hb; replace HB := hs w hb; (try clear hb)))
                   repeat (go_quiet (first | (go_at_call 39; (with_reducible refine (kit_IsName.calls (rdOf ByteArray.empty ((rd_T35 l0 x13_1).f2) x48_3) false _ A29.out).mono ?_); rintro e w41 ⟨rfl, hb⟩; replace BK429 := bb BK429 hb; replace HB := hs w hb; (try clear hb))); try go_wp2_with (first | (go_at_call 39; (with_reducible refine (kit_IsName.calls (rdOf ByteArray.empty ((rd_T35 l0 x13_1).f2) x48_3) false _ A29.out).mono ?_); rintro e w41 ⟨rfl, hb⟩; replace BK429 := bb BK429 hb; replace HB := hs w hb; (try clear hb))))
                   go_ret
                   exact ⟨by first | rfl | (simp [errW_none, errW_some] <;> rfl) | (simp [*, errW_none, errW_some] <;> rfl), (zb w)⟩
                 ·rw [if_neg c28] at H
                  exact absurd H (by simp)
                ·rw [if_neg c27] at H
                 exact absurd H (by simp)
               ·rw [if_neg c26] at H
                have c26b0 : decide (x48_3 < (((rd_T35 l0 x13_1).f2).length : Int)) = false := decide_eq_false c26
                clear c26
                have H' := Aside0.mk H
                clear H
                go_wp2
                repeat (go_quiet (fail); try go_wp2)
                go_roundg k3
                case measure => have := HK1.out; have := HJ7.out; have := HK3.out; omega
                case rel => exact ⟨(wrap64 (x13_1 + 1)), ar, H', ⟨by have := HK1.out; have := HJ7.out; have := HK3.out; omega⟩, ⟨(zb w)⟩⟩
           ·rw [if_neg c18] at H
            have c18b0 : (t432 == 0) = false := beq_eq_false_iff_ne.mpr c18
            have c18b1 : (t432 != 0) = true := bne_iff_ne.mpr c18
            obtain rfl := Option.some.inj H
            obtain ⟨hcz42_0, hcz42_1, hcz42_2, hcz42_3, hfz42_0, hfz42_1, hfz42_2, hfz42_3⟩ := cz4 BK429
            go_wp2_with (first | (go_at_call 42; (with_reducible refine (bill_moneyFault.calls kj7 ((rd_T35 l0 x13_1).f1.f0) ((rd_T35 l0 x13_1).f1.f1) t432 _ A17.out).mono ?_); rintro e w43 ⟨rfl, hb⟩; replace BK429 := bb BK429 hb; replace HB := hs w hb; (try clear hb)))
            repeat (go_quiet (first | (go_at_call 42; (with_reducible refine (bill_moneyFault.calls kj7 ((rd_T35 l0 x13_1).f1.f0) ((rd_T35 l0 x13_1).f1.f1) t432 _ A17.out).mono ?_); rintro e w43 ⟨rfl, hb⟩; replace BK429 := bb BK429 hb; replace HB := hs w hb; (try clear hb))); try go_wp2_with (first | (go_at_call 42; (with_reducible refine (bill_moneyFault.calls kj7 ((rd_T35 l0 x13_1).f1.f0) ((rd_T35 l0 x13_1).f1.f1) t432 _ A17.out).mono ?_); rintro e w43 ⟨rfl, hb⟩; replace BK429 := bb BK429 hb; replace HB := hs w hb; (try clear hb))))
            go_ret
            exact ⟨by first | rfl | (simp [errW_none, errW_some] <;> rfl) | (simp [*, errW_none, errW_some] <;> rfl), (zb w)⟩
       ·replace c7 := Bool.eq_false_iff.mpr c7
        subst c7
        have H1 : (some 1) = some r := by rw [if_neg (show ¬ (false = true) by decide)] at H; exact H
        clear H
        have H := H1
        clear H1
        obtain rfl := Option.some.inj H
        have p428 : 0 ≤ (x13_1 : Int) := of_decide_eq_true (by assumption)
        have q428 : x13_1 < (l0.length : Int) := of_decide_eq_true (by assumption)
        obtain ⟨ad428, A428_3, c428_3, e428, hx428_0, hx428_1, hx428_2, hx428_3, hl428_3, hi428_3⟩ := at_T35 HR0.out x13_1 p428 q428
        cases e428
        replace hx428_0 := hz HB hx428_0
        replace hx428_1 := hz HB hx428_1
        replace hx428_2 := hz HB hx428_2
        replace hx428_3 := hz HB hx428_3
        have HR428_3 := Aside0.mk hi428_3
        have HC428_3 := Aside0.mk hl428_3
        clear hi428_3 hl428_3
        replace p428 := eq_true p428
        replace q428 := eq_true q428
        go_wp2_with (first | ((with_reducible refine gD 4 rfl ?_); refine bx w 4 #[.int .i64 0, .int .i64 0, .int .i64 0, .slice none 0 0] 35 ?_; intro gb429 hg w44 hb BK429 GW429 GE429; clear HB; intro HB; clear hb hg; obtain ⟨hcz45_0, hcz45_1, hcz45_2, hcz45_3, hfz45_0, hfz45_1, hfz45_2, hfz45_3⟩ := cz4 BK429) | (go_at_call 19; (with_reducible refine (kit_IsDay.calls ((rd_T35 l0 x13_1).f0) false _ A6.out).mono ?_); rintro e w' ⟨rfl, ⟨nd, rfl⟩⟩; (try first | exact ⟨rfl, _, World.drewN_drewN _ _ _⟩ | exact ⟨rfl, _, Eq.trans (World.drewN_drewN _ _ _) (congrArg (World.drewN _) (Nat.add_assoc _ _ _))⟩)))
        repeat (go_quiet (first | ((with_reducible refine gD 4 rfl ?_); refine bx w 4 #[.int .i64 0, .int .i64 0, .int .i64 0, .slice none 0 0] 35 ?_; intro gb429 hg w44 hb BK429 GW429 GE429; clear HB; intro HB; clear hb hg; obtain ⟨hcz45_0, hcz45_1, hcz45_2, hcz45_3, hfz45_0, hfz45_1, hfz45_2, hfz45_3⟩ := cz4 BK429) | (go_at_call 19; (with_reducible refine (kit_IsDay.calls ((rd_T35 l0 x13_1).f0) false _ A6.out).mono ?_); rintro e w' ⟨rfl, ⟨nd, rfl⟩⟩; (try first | exact ⟨rfl, _, World.drewN_drewN _ _ _⟩ | exact ⟨rfl, _, Eq.trans (World.drewN_drewN _ _ _) (congrArg (World.drewN _) (Nat.add_assoc _ _ _))⟩))); try go_wp2_with (first | ((with_reducible refine gD 4 rfl ?_); refine bx w 4 #[.int .i64 0, .int .i64 0, .int .i64 0, .slice none 0 0] 35 ?_; intro gb429 hg w44 hb BK429 GW429 GE429; clear HB; intro HB; clear hb hg; obtain ⟨hcz45_0, hcz45_1, hcz45_2, hcz45_3, hfz45_0, hfz45_1, hfz45_2, hfz45_3⟩ := cz4 BK429) | (go_at_call 19; (with_reducible refine (kit_IsDay.calls ((rd_T35 l0 x13_1).f0) false _ A6.out).mono ?_); rintro e w' ⟨rfl, ⟨nd, rfl⟩⟩; (try first | exact ⟨rfl, _, World.drewN_drewN _ _ _⟩ | exact ⟨rfl, _, Eq.trans (World.drewN_drewN _ _ _) (congrArg (World.drewN _) (Nat.add_assoc _ _ _))⟩))))
        go_ret
        exact ⟨by first | rfl | (simp [errW_none, errW_some] <;> rfl) | (simp [*, errW_none, errW_some] <;> rfl), (zb w)⟩
      ·rw [if_neg c5] at H
       exact absurd H (by simp)
     ·rw [if_neg c4] at H
      exact absurd H (by simp)
    ·rw [if_neg c3] at H
     have c3b0 : decide (x13_1 < (l0.length : Int)) = false := decide_eq_false c3
     clear c3
     obtain rfl := Option.some.inj H
     go_wp2
     repeat (go_quiet (fail); try go_wp2)
     go_ret
     exact ⟨by first | rfl | (simp [errW_none, errW_some] <;> rfl) | (simp [*, errW_none, errW_some] <;> rfl), (zb w)⟩

/-- A state of type 60 at block g of W; what its slices lead to came in by w0. -/
def IsS60 (w0 W : World) (g : Nat) (f0 : ByteArray) (f1 : Int) (f2 : Int) (f3 : Int) (f4 : Int) (f5 : Int) (f6 : Int) (f7 : Int) (f8 : Int) (f9 : Int) (f10 : Int) : Prop := W.heap[g]? = some (.cells #[.string f0, .int .i64 f1, .int .i64 f2, .int .i64 f3, .int .i64 f4, .int .i64 f5, .int .i64 f6, .int .i64 f7, .int .i64 f8, .int .i64 f9, .int .i64 f10] 60 (0, 0)) ∧ w0.heap.size ≤ g
theorem IsS60.grown {w0 W : World} {g : Nat} {f0 : ByteArray} {f1 : Int} {f2 : Int} {f3 : Int} {f4 : Int} {f5 : Int} {f6 : Int} {f7 : Int} {f8 : Int} {f9 : Int} {f10 : Int} {W1 : World} {row : Option Nat} (h : IsS60 w0 W g f0 f1 f2 f3 f4 f5 f6 f7 f8 f9 f10) (hw : W.grownBy W1 row) (hne : some g ≠ row) : IsS60 w0 W1 g f0 f1 f2 f3 f4 f5 f6 f7 f8 f9 f10 := by
 obtain ⟨hb, hg⟩ := h
 exact ⟨blk_grown hb hw hne, hg⟩
theorem IsS60.own_neN {w0 W : World} {g : Nat} {f0 : ByteArray} {f1 : Int} {f2 : Int} {f3 : Int} {f4 : Int} {f5 : Int} {f6 : Int} {f7 : Int} {f8 : Int} {f9 : Int} {f10 : Int} {α : Type} {d : Kd α} {e : Nat} {base : Nat} {ok : Nat → Prop} {v : Value} {xs : List α} (h : IsS60 w0 W g f0 f1 f2 f3 f4 f5 f6 f7 f8 f9 f10) (ho : Kd.N d e W base ok v xs) (ht : e ≠ 60) : some g ≠ v.ownBlock := by
 obtain ⟨hb, hg⟩ := h
 exact Kd.N_ne ho hb ht
theorem IsS60.fresh {w0 W : World} {g : Nat} {f0 : ByteArray} {f1 : Int} {f2 : Int} {f3 : Int} {f4 : Int} {f5 : Int} {f6 : Int} {f7 : Int} {f8 : Int} {f9 : Int} {f10 : Int} (h : IsS60 w0 W g f0 f1 f2 f3 f4 f5 f6 f7 f8 f9 f10) : ∀ k, W.heap.size ≤ k → k ≠ g := by
 obtain ⟨hb, hg⟩ := h
 exact Kd.freshB hb
theorem IsS60.kept {w0 W : World} {g : Nat} {f0 : ByteArray} {f1 : Int} {f2 : Int} {f3 : Int} {f4 : Int} {f5 : Int} {f6 : Int} {f7 : Int} {f8 : Int} {f9 : Int} {f10 : Int} {W1 : World} {S : Nat → Prop} (h : IsS60 w0 W g f0 f1 f2 f3 f4 f5 f6 f7 f8 f9 f10) (hk : Kept W W1 S) (hne : ¬ S g) : IsS60 w0 W1 g f0 f1 f2 f3 f4 f5 f6 f7 f8 f9 f10 := by
 obtain ⟨hb, hg⟩ := h
 exact ⟨blk_kept hb hk hne, hg⟩
theorem IsS60.below {w0 W : World} {g : Nat} {f0 : ByteArray} {f1 : Int} {f2 : Int} {f3 : Int} {f4 : Int} {f5 : Int} {f6 : Int} {f7 : Int} {f8 : Int} {f9 : Int} {f10 : Int} {W1 : World} (h : IsS60 w0 W g f0 f1 f2 f3 f4 f5 f6 f7 f8 f9 f10) (hw : Below W.heap.size W W1) : IsS60 w0 W1 g f0 f1 f2 f3 f4 f5 f6 f7 f8 f9 f10 := h.grown (grown_of_below hw none) (by simp)
theorem IsS60.alloc {w0 W : World} {g : Nat} {f0 : ByteArray} {f1 : Int} {f2 : Int} {f3 : Int} {f4 : Int} {f5 : Int} {f6 : Int} {f7 : Int} {f8 : Int} {f9 : Int} {f10 : Int} (h : IsS60 w0 W g f0 f1 f2 f3 f4 f5 f6 f7 f8 f9 f10) (o : Obj) : IsS60 w0 (W.alloc o) g f0 f1 f2 f3 f4 f5 f6 f7 f8 f9 f10 := h.below (below_alloc (Below.refl _ _) o)
theorem IsS60.drewN {w0 W : World} {g : Nat} {f0 : ByteArray} {f1 : Int} {f2 : Int} {f3 : Int} {f4 : Int} {f5 : Int} {f6 : Int} {f7 : Int} {f8 : Int} {f9 : Int} {f10 : Int} (h : IsS60 w0 W g f0 f1 f2 f3 f4 f5 f6 f7 f8 f9 f10) (m : Nat) : IsS60 w0 (W.drewN m) g f0 f1 f2 f3 f4 f5 f6 f7 f8 f9 f10 := h
theorem IsS60.drew {w0 W : World} {g : Nat} {f0 : ByteArray} {f1 : Int} {f2 : Int} {f3 : Int} {f4 : Int} {f5 : Int} {f6 : Int} {f7 : Int} {f8 : Int} {f9 : Int} {f10 : Int} (h : IsS60 w0 W g f0 f1 f2 f3 f4 f5 f6 f7 f8 f9 f10) : IsS60 w0 W.drew g f0 f1 f2 f3 f4 f5 f6 f7 f8 f9 f10 := h
theorem IsS60.at_ {w0 W : World} {g : Nat} {f0 : ByteArray} {f1 : Int} {f2 : Int} {f3 : Int} {f4 : Int} {f5 : Int} {f6 : Int} {f7 : Int} {f8 : Int} {f9 : Int} {f10 : Int} {w' : World} {m : Nat} (hq : W.drewN m = w') (h : IsS60 w0 W g f0 f1 f2 f3 f4 f5 f6 f7 f8 f9 f10) : IsS60 w0 w' g f0 f1 f2 f3 f4 f5 f6 f7 f8 f9 f10 := by subst hq; exact IsS60.drewN h m
theorem IsS60.apart {w0 W : World} {g : Nat} {f0 : ByteArray} {f1 : Int} {f2 : Int} {f3 : Int} {f4 : Int} {f5 : Int} {f6 : Int} {f7 : Int} {f8 : Int} {f9 : Int} {f10 : Int} {α : Type} {d : Kd α} {e : Nat} {base : Nat} {ok : Nat → Prop} {v : Value} {xs : List α} (h : IsS60 w0 W g f0 f1 f2 f3 f4 f5 f6 f7 f8 f9 f10) (ho : d.R e W base ok v xs) (ht : ∀ q, q ∈ e :: d.E → q ≠ 60) : d.R e W base (fun k => ok k ∧ k ≠ g) v xs := by
 obtain ⟨hb, hg⟩ := h
 exact Kd.R_types ho hb ht
theorem IsS60.own_ne {w0 W : World} {g : Nat} {f0 : ByteArray} {f1 : Int} {f2 : Int} {f3 : Int} {f4 : Int} {f5 : Int} {f6 : Int} {f7 : Int} {f8 : Int} {f9 : Int} {f10 : Int} {α : Type} {d : Kd α} {e : Nat} {base : Nat} {ok : Nat → Prop} {v : Value} {xs : List α} (h : IsS60 w0 W g f0 f1 f2 f3 f4 f5 f6 f7 f8 f9 f10) (ho : d.R e W base ok v xs) (ht : e ≠ 60) : some g ≠ v.ownBlock := by
 obtain ⟨hb, hg⟩ := h
 exact Kd.R_ne ho hb ht
theorem IsS60.apartQ {w0 W : World} {g : Nat} {f0 : ByteArray} {f1 : Int} {f2 : Int} {f3 : Int} {f4 : Int} {f5 : Int} {f6 : Int} {f7 : Int} {f8 : Int} {f9 : Int} {f10 : Int} {α : Type} {d : Kd α} {e : Nat} {base : Nat} {ok : Nat → Prop} {v : Value} {xs : List α} (h : IsS60 w0 W g f0 f1 f2 f3 f4 f5 f6 f7 f8 f9 f10) (ho : d.Q e W base ok v xs) (ht : ∀ q, q ∈ e :: d.E → q ≠ 60) : d.Q e W base (fun k => ok k ∧ k ≠ g) v xs := by
 obtain ⟨hb, hg⟩ := h
 exact Kd.Q_types ho hb ht
theorem IsS60.own_neQ {w0 W : World} {g : Nat} {f0 : ByteArray} {f1 : Int} {f2 : Int} {f3 : Int} {f4 : Int} {f5 : Int} {f6 : Int} {f7 : Int} {f8 : Int} {f9 : Int} {f10 : Int} {α : Type} {d : Kd α} {e : Nat} {base : Nat} {ok : Nat → Prop} {v : Value} {xs : List α} (h : IsS60 w0 W g f0 f1 f2 f3 f4 f5 f6 f7 f8 f9 f10) (ho : d.Q e W base ok v xs) (ht : e ≠ 60) : some g ≠ v.ownBlock := by
 obtain ⟨hb, hg⟩ := h
 exact Kd.Q_ne ho hb ht
theorem IsS60.apartS {w0 W : World} {g : Nat} {f0 : ByteArray} {f1 : Int} {f2 : Int} {f3 : Int} {f4 : Int} {f5 : Int} {f6 : Int} {f7 : Int} {f8 : Int} {f9 : Int} {f10 : Int} {α : Type} {d : Kd α} {e : Nat} {base : Nat} {ok : Nat → Prop} {v : Value} {xs : List α} (h : IsS60 w0 W g f0 f1 f2 f3 f4 f5 f6 f7 f8 f9 f10) (ho : d.S e W base ok v xs) (ht : ∀ q, q ∈ e :: d.E → q ≠ 60) : d.S e W base (fun k => ok k ∧ k ≠ g) v xs := by
 obtain ⟨hb, hg⟩ := h
 exact Kd.S_types ho hb ht
theorem IsS60.own_neS {w0 W : World} {g : Nat} {f0 : ByteArray} {f1 : Int} {f2 : Int} {f3 : Int} {f4 : Int} {f5 : Int} {f6 : Int} {f7 : Int} {f8 : Int} {f9 : Int} {f10 : Int} {α : Type} {d : Kd α} {e : Nat} {base : Nat} {ok : Nat → Prop} {v : Value} {xs : List α} (h : IsS60 w0 W g f0 f1 f2 f3 f4 f5 f6 f7 f8 f9 f10) (ho : d.S e W base ok v xs) (ht : e ≠ 60) : some g ≠ v.ownBlock := by
 obtain ⟨hb, hg⟩ := h
 exact Kd.S_ne ho hb ht
theorem IsS60.lt {w0 W : World} {g : Nat} {f0 : ByteArray} {f1 : Int} {f2 : Int} {f3 : Int} {f4 : Int} {f5 : Int} {f6 : Int} {f7 : Int} {f8 : Int} {f9 : Int} {f10 : Int} (h : IsS60 w0 W g f0 f1 f2 f3 f4 f5 f6 f7 f8 f9 f10) : g < W.heap.size := by
 obtain ⟨hb, hg⟩ := h
 exact blk_lt hb
theorem IsS60.ge {w0 W : World} {g : Nat} {f0 : ByteArray} {f1 : Int} {f2 : Int} {f3 : Int} {f4 : Int} {f5 : Int} {f6 : Int} {f7 : Int} {f8 : Int} {f9 : Int} {f10 : Int} (h : IsS60 w0 W g f0 f1 f2 f3 f4 f5 f6 f7 f8 f9 f10) : w0.heap.size ≤ g := by
 obtain ⟨hb, hg⟩ := h
 exact hg
theorem IsS60.ne_blk {w0 W : World} {g : Nat} {f0 : ByteArray} {f1 : Int} {f2 : Int} {f3 : Int} {f4 : Int} {f5 : Int} {f6 : Int} {f7 : Int} {f8 : Int} {f9 : Int} {f10 : Int} {a : Nat} {cs : Array Value} {t : TypeId} {fr : Nat × Nat} (h : IsS60 w0 W g f0 f1 f2 f3 f4 f5 f6 f7 f8 f9 f10) (hb2 : W.heap[a]? = some (.cells cs t fr)) (ht : t ≠ 60) : g ≠ a := by
 obtain ⟨hb, hg⟩ := h
 rintro rfl
 rw [hb] at hb2
 injection hb2 with hb2
 injection hb2 with _ ht2
 exact ht ht2.symm
theorem IsS60.far {w0 W : World} {g : Nat} {f0 : ByteArray} {f1 : Int} {f2 : Int} {f3 : Int} {f4 : Int} {f5 : Int} {f6 : Int} {f7 : Int} {f8 : Int} {f9 : Int} {f10 : Int} {p : Addr} (h : IsS60 w0 W g f0 f1 f2 f3 f4 f5 f6 f7 f8 f9 f10) (hne : g ≠ p.block) (u : Value) : IsS60 w0 (W.setCell p u) g f0 f1 f2 f3 f4 f5 f6 f7 f8 f9 f10 := by
 obtain ⟨hb, hg⟩ := h
 exact ⟨blk_far hb hne u, hg⟩
theorem cellS60_0 {W : World} {g : Nat} {f0 : ByteArray} {f1 : Int} {f2 : Int} {f3 : Int} {f4 : Int} {f5 : Int} {f6 : Int} {f7 : Int} {f8 : Int} {f9 : Int} {f10 : Int} (h : W.heap[g]? = some (.cells #[.string f0, .int .i64 f1, .int .i64 f2, .int .i64 f3, .int .i64 f4, .int .i64 f5, .int .i64 f6, .int .i64 f7, .int .i64 f8, .int .i64 f9, .int .i64 f10] 60 (0, 0))) : W.cell? ⟨g, 0, none⟩ = some (.string f0) := (blk_cell h 0).trans rfl
theorem IsS60.set_0 {w0 W : World} {g : Nat} {f0 : ByteArray} {f1 : Int} {f2 : Int} {f3 : Int} {f4 : Int} {f5 : Int} {f6 : Int} {f7 : Int} {f8 : Int} {f9 : Int} {f10 : Int} (h : IsS60 w0 W g f0 f1 f2 f3 f4 f5 f6 f7 f8 f9 f10) (x : ByteArray) : IsS60 w0 (W.setCell ⟨g, 0, none⟩ (.string x)) g x f1 f2 f3 f4 f5 f6 f7 f8 f9 f10 := by
 obtain ⟨hb, hg⟩ := h
 exact ⟨by simpa using blk_set hb 0 (.string x), hg⟩
theorem cellS60_1 {W : World} {g : Nat} {f0 : ByteArray} {f1 : Int} {f2 : Int} {f3 : Int} {f4 : Int} {f5 : Int} {f6 : Int} {f7 : Int} {f8 : Int} {f9 : Int} {f10 : Int} (h : W.heap[g]? = some (.cells #[.string f0, .int .i64 f1, .int .i64 f2, .int .i64 f3, .int .i64 f4, .int .i64 f5, .int .i64 f6, .int .i64 f7, .int .i64 f8, .int .i64 f9, .int .i64 f10] 60 (0, 0))) : W.cell? ⟨g, 1, none⟩ = some (.int .i64 f1) := (blk_cell h 1).trans rfl
theorem IsS60.set_1 {w0 W : World} {g : Nat} {f0 : ByteArray} {f1 : Int} {f2 : Int} {f3 : Int} {f4 : Int} {f5 : Int} {f6 : Int} {f7 : Int} {f8 : Int} {f9 : Int} {f10 : Int} (h : IsS60 w0 W g f0 f1 f2 f3 f4 f5 f6 f7 f8 f9 f10) (x : Int) : IsS60 w0 (W.setCell ⟨g, 1, none⟩ (.int .i64 x)) g f0 x f2 f3 f4 f5 f6 f7 f8 f9 f10 := by
 obtain ⟨hb, hg⟩ := h
 exact ⟨by simpa using blk_set hb 1 (.int .i64 x), hg⟩
theorem cellS60_2 {W : World} {g : Nat} {f0 : ByteArray} {f1 : Int} {f2 : Int} {f3 : Int} {f4 : Int} {f5 : Int} {f6 : Int} {f7 : Int} {f8 : Int} {f9 : Int} {f10 : Int} (h : W.heap[g]? = some (.cells #[.string f0, .int .i64 f1, .int .i64 f2, .int .i64 f3, .int .i64 f4, .int .i64 f5, .int .i64 f6, .int .i64 f7, .int .i64 f8, .int .i64 f9, .int .i64 f10] 60 (0, 0))) : W.cell? ⟨g, 2, none⟩ = some (.int .i64 f2) := (blk_cell h 2).trans rfl
theorem IsS60.set_2 {w0 W : World} {g : Nat} {f0 : ByteArray} {f1 : Int} {f2 : Int} {f3 : Int} {f4 : Int} {f5 : Int} {f6 : Int} {f7 : Int} {f8 : Int} {f9 : Int} {f10 : Int} (h : IsS60 w0 W g f0 f1 f2 f3 f4 f5 f6 f7 f8 f9 f10) (x : Int) : IsS60 w0 (W.setCell ⟨g, 2, none⟩ (.int .i64 x)) g f0 f1 x f3 f4 f5 f6 f7 f8 f9 f10 := by
 obtain ⟨hb, hg⟩ := h
 exact ⟨by simpa using blk_set hb 2 (.int .i64 x), hg⟩
theorem cellS60_3 {W : World} {g : Nat} {f0 : ByteArray} {f1 : Int} {f2 : Int} {f3 : Int} {f4 : Int} {f5 : Int} {f6 : Int} {f7 : Int} {f8 : Int} {f9 : Int} {f10 : Int} (h : W.heap[g]? = some (.cells #[.string f0, .int .i64 f1, .int .i64 f2, .int .i64 f3, .int .i64 f4, .int .i64 f5, .int .i64 f6, .int .i64 f7, .int .i64 f8, .int .i64 f9, .int .i64 f10] 60 (0, 0))) : W.cell? ⟨g, 3, none⟩ = some (.int .i64 f3) := (blk_cell h 3).trans rfl
theorem IsS60.set_3 {w0 W : World} {g : Nat} {f0 : ByteArray} {f1 : Int} {f2 : Int} {f3 : Int} {f4 : Int} {f5 : Int} {f6 : Int} {f7 : Int} {f8 : Int} {f9 : Int} {f10 : Int} (h : IsS60 w0 W g f0 f1 f2 f3 f4 f5 f6 f7 f8 f9 f10) (x : Int) : IsS60 w0 (W.setCell ⟨g, 3, none⟩ (.int .i64 x)) g f0 f1 f2 x f4 f5 f6 f7 f8 f9 f10 := by
 obtain ⟨hb, hg⟩ := h
 exact ⟨by simpa using blk_set hb 3 (.int .i64 x), hg⟩
theorem cellS60_4 {W : World} {g : Nat} {f0 : ByteArray} {f1 : Int} {f2 : Int} {f3 : Int} {f4 : Int} {f5 : Int} {f6 : Int} {f7 : Int} {f8 : Int} {f9 : Int} {f10 : Int} (h : W.heap[g]? = some (.cells #[.string f0, .int .i64 f1, .int .i64 f2, .int .i64 f3, .int .i64 f4, .int .i64 f5, .int .i64 f6, .int .i64 f7, .int .i64 f8, .int .i64 f9, .int .i64 f10] 60 (0, 0))) : W.cell? ⟨g, 4, none⟩ = some (.int .i64 f4) := (blk_cell h 4).trans rfl
theorem IsS60.set_4 {w0 W : World} {g : Nat} {f0 : ByteArray} {f1 : Int} {f2 : Int} {f3 : Int} {f4 : Int} {f5 : Int} {f6 : Int} {f7 : Int} {f8 : Int} {f9 : Int} {f10 : Int} (h : IsS60 w0 W g f0 f1 f2 f3 f4 f5 f6 f7 f8 f9 f10) (x : Int) : IsS60 w0 (W.setCell ⟨g, 4, none⟩ (.int .i64 x)) g f0 f1 f2 f3 x f5 f6 f7 f8 f9 f10 := by
 obtain ⟨hb, hg⟩ := h
 exact ⟨by simpa using blk_set hb 4 (.int .i64 x), hg⟩
theorem cellS60_5 {W : World} {g : Nat} {f0 : ByteArray} {f1 : Int} {f2 : Int} {f3 : Int} {f4 : Int} {f5 : Int} {f6 : Int} {f7 : Int} {f8 : Int} {f9 : Int} {f10 : Int} (h : W.heap[g]? = some (.cells #[.string f0, .int .i64 f1, .int .i64 f2, .int .i64 f3, .int .i64 f4, .int .i64 f5, .int .i64 f6, .int .i64 f7, .int .i64 f8, .int .i64 f9, .int .i64 f10] 60 (0, 0))) : W.cell? ⟨g, 5, none⟩ = some (.int .i64 f5) := (blk_cell h 5).trans rfl
theorem IsS60.set_5 {w0 W : World} {g : Nat} {f0 : ByteArray} {f1 : Int} {f2 : Int} {f3 : Int} {f4 : Int} {f5 : Int} {f6 : Int} {f7 : Int} {f8 : Int} {f9 : Int} {f10 : Int} (h : IsS60 w0 W g f0 f1 f2 f3 f4 f5 f6 f7 f8 f9 f10) (x : Int) : IsS60 w0 (W.setCell ⟨g, 5, none⟩ (.int .i64 x)) g f0 f1 f2 f3 f4 x f6 f7 f8 f9 f10 := by
 obtain ⟨hb, hg⟩ := h
 exact ⟨by simpa using blk_set hb 5 (.int .i64 x), hg⟩
theorem cellS60_6 {W : World} {g : Nat} {f0 : ByteArray} {f1 : Int} {f2 : Int} {f3 : Int} {f4 : Int} {f5 : Int} {f6 : Int} {f7 : Int} {f8 : Int} {f9 : Int} {f10 : Int} (h : W.heap[g]? = some (.cells #[.string f0, .int .i64 f1, .int .i64 f2, .int .i64 f3, .int .i64 f4, .int .i64 f5, .int .i64 f6, .int .i64 f7, .int .i64 f8, .int .i64 f9, .int .i64 f10] 60 (0, 0))) : W.cell? ⟨g, 6, none⟩ = some (.int .i64 f6) := (blk_cell h 6).trans rfl
theorem IsS60.set_6 {w0 W : World} {g : Nat} {f0 : ByteArray} {f1 : Int} {f2 : Int} {f3 : Int} {f4 : Int} {f5 : Int} {f6 : Int} {f7 : Int} {f8 : Int} {f9 : Int} {f10 : Int} (h : IsS60 w0 W g f0 f1 f2 f3 f4 f5 f6 f7 f8 f9 f10) (x : Int) : IsS60 w0 (W.setCell ⟨g, 6, none⟩ (.int .i64 x)) g f0 f1 f2 f3 f4 f5 x f7 f8 f9 f10 := by
 obtain ⟨hb, hg⟩ := h
 exact ⟨by simpa using blk_set hb 6 (.int .i64 x), hg⟩
theorem cellS60_7 {W : World} {g : Nat} {f0 : ByteArray} {f1 : Int} {f2 : Int} {f3 : Int} {f4 : Int} {f5 : Int} {f6 : Int} {f7 : Int} {f8 : Int} {f9 : Int} {f10 : Int} (h : W.heap[g]? = some (.cells #[.string f0, .int .i64 f1, .int .i64 f2, .int .i64 f3, .int .i64 f4, .int .i64 f5, .int .i64 f6, .int .i64 f7, .int .i64 f8, .int .i64 f9, .int .i64 f10] 60 (0, 0))) : W.cell? ⟨g, 7, none⟩ = some (.int .i64 f7) := (blk_cell h 7).trans rfl
theorem IsS60.set_7 {w0 W : World} {g : Nat} {f0 : ByteArray} {f1 : Int} {f2 : Int} {f3 : Int} {f4 : Int} {f5 : Int} {f6 : Int} {f7 : Int} {f8 : Int} {f9 : Int} {f10 : Int} (h : IsS60 w0 W g f0 f1 f2 f3 f4 f5 f6 f7 f8 f9 f10) (x : Int) : IsS60 w0 (W.setCell ⟨g, 7, none⟩ (.int .i64 x)) g f0 f1 f2 f3 f4 f5 f6 x f8 f9 f10 := by
 obtain ⟨hb, hg⟩ := h
 exact ⟨by simpa using blk_set hb 7 (.int .i64 x), hg⟩
theorem cellS60_8 {W : World} {g : Nat} {f0 : ByteArray} {f1 : Int} {f2 : Int} {f3 : Int} {f4 : Int} {f5 : Int} {f6 : Int} {f7 : Int} {f8 : Int} {f9 : Int} {f10 : Int} (h : W.heap[g]? = some (.cells #[.string f0, .int .i64 f1, .int .i64 f2, .int .i64 f3, .int .i64 f4, .int .i64 f5, .int .i64 f6, .int .i64 f7, .int .i64 f8, .int .i64 f9, .int .i64 f10] 60 (0, 0))) : W.cell? ⟨g, 8, none⟩ = some (.int .i64 f8) := (blk_cell h 8).trans rfl
theorem IsS60.set_8 {w0 W : World} {g : Nat} {f0 : ByteArray} {f1 : Int} {f2 : Int} {f3 : Int} {f4 : Int} {f5 : Int} {f6 : Int} {f7 : Int} {f8 : Int} {f9 : Int} {f10 : Int} (h : IsS60 w0 W g f0 f1 f2 f3 f4 f5 f6 f7 f8 f9 f10) (x : Int) : IsS60 w0 (W.setCell ⟨g, 8, none⟩ (.int .i64 x)) g f0 f1 f2 f3 f4 f5 f6 f7 x f9 f10 := by
 obtain ⟨hb, hg⟩ := h
 exact ⟨by simpa using blk_set hb 8 (.int .i64 x), hg⟩
theorem cellS60_9 {W : World} {g : Nat} {f0 : ByteArray} {f1 : Int} {f2 : Int} {f3 : Int} {f4 : Int} {f5 : Int} {f6 : Int} {f7 : Int} {f8 : Int} {f9 : Int} {f10 : Int} (h : W.heap[g]? = some (.cells #[.string f0, .int .i64 f1, .int .i64 f2, .int .i64 f3, .int .i64 f4, .int .i64 f5, .int .i64 f6, .int .i64 f7, .int .i64 f8, .int .i64 f9, .int .i64 f10] 60 (0, 0))) : W.cell? ⟨g, 9, none⟩ = some (.int .i64 f9) := (blk_cell h 9).trans rfl
theorem IsS60.set_9 {w0 W : World} {g : Nat} {f0 : ByteArray} {f1 : Int} {f2 : Int} {f3 : Int} {f4 : Int} {f5 : Int} {f6 : Int} {f7 : Int} {f8 : Int} {f9 : Int} {f10 : Int} (h : IsS60 w0 W g f0 f1 f2 f3 f4 f5 f6 f7 f8 f9 f10) (x : Int) : IsS60 w0 (W.setCell ⟨g, 9, none⟩ (.int .i64 x)) g f0 f1 f2 f3 f4 f5 f6 f7 f8 x f10 := by
 obtain ⟨hb, hg⟩ := h
 exact ⟨by simpa using blk_set hb 9 (.int .i64 x), hg⟩
theorem cellS60_10 {W : World} {g : Nat} {f0 : ByteArray} {f1 : Int} {f2 : Int} {f3 : Int} {f4 : Int} {f5 : Int} {f6 : Int} {f7 : Int} {f8 : Int} {f9 : Int} {f10 : Int} (h : W.heap[g]? = some (.cells #[.string f0, .int .i64 f1, .int .i64 f2, .int .i64 f3, .int .i64 f4, .int .i64 f5, .int .i64 f6, .int .i64 f7, .int .i64 f8, .int .i64 f9, .int .i64 f10] 60 (0, 0))) : W.cell? ⟨g, 10, none⟩ = some (.int .i64 f10) := (blk_cell h 10).trans rfl
theorem IsS60.set_10 {w0 W : World} {g : Nat} {f0 : ByteArray} {f1 : Int} {f2 : Int} {f3 : Int} {f4 : Int} {f5 : Int} {f6 : Int} {f7 : Int} {f8 : Int} {f9 : Int} {f10 : Int} (h : IsS60 w0 W g f0 f1 f2 f3 f4 f5 f6 f7 f8 f9 f10) (x : Int) : IsS60 w0 (W.setCell ⟨g, 10, none⟩ (.int .i64 x)) g f0 f1 f2 f3 f4 f5 f6 f7 f8 f9 x := by
 obtain ⟨hb, hg⟩ := h
 exact ⟨by simpa using blk_set hb 10 (.int .i64 x), hg⟩
theorem IsS60.new (w0 W : World) (f0 : ByteArray) (f1 : Int) (f2 : Int) (f3 : Int) (f4 : Int) (f5 : Int) (f6 : Int) (f7 : Int) (f8 : Int) (f9 : Int) (f10 : Int) (hB : Below w0.heap.size w0 W) : IsS60 w0 (W.alloc (.cells #[.string f0, .int .i64 f1, .int .i64 f2, .int .i64 f3, .int .i64 f4, .int .i64 f5, .int .i64 f6, .int .i64 f7, .int .i64 f8, .int .i64 f9, .int .i64 f10] 60)) W.heap.size f0 f1 f2 f3 f4 f5 f6 f7 f8 f9 f10 := ⟨by simpa using heap_alloc_new W _, hB.size⟩

/-! ### bill_debt_there: function 20 -/
def bill_debt_there.f (s0_0 : ByteArray) (s0_1 : Int) (s0_2 : Int) (s0_3 : Int) (s0_4 : Int) (s0_5 : Int) (s0_6 : Int) (s0_7 : Int) (s0_8 : Int) (s0_9 : Int) (s0_10 : Int) (a1 : Int) : Option (Bool × ByteArray × Int × Int × Int × Int × Int × Int × Int × Int × Int × Int) := if s0_1 ≤ a1 then (some ((s0_10 == 0), s0_0, s0_1, s0_2, s0_3, s0_4, s0_5, s0_6, s0_7, s0_8, s0_9, s0_10)) else (some (false, s0_0, s0_1, s0_2, s0_3, s0_4, s0_5, s0_6, s0_7, s0_8, s0_9, s0_10))
set_option maxHeartbeats 8000000 in
set_option maxRecDepth 100000 in
theorem bill_debt_there.calls (g : Nat) (s0_0 : ByteArray) (s0_1 : Int) (s0_2 : Int) (s0_3 : Int) (s0_4 : Int) (s0_5 : Int) (s0_6 : Int) (s0_7 : Int) (s0_8 : Int) (s0_9 : Int) (s0_10 : Int) (a1 : Int) (r1 : Bool) (r2 : ByteArray) (r3 : Int) (r4 : Int) (r5 : Int) (r6 : Int) (r7 : Int) (r8 : Int) (r9 : Int) (r10 : Int) (r11 : Int) (r12 : Int) (w0 w : World) (hI : IsS60 w0 w g s0_0 s0_1 s0_2 s0_3 s0_4 s0_5 s0_6 s0_7 s0_8 s0_9 s0_10) (hB : Below w0.heap.size w0 w) (h : bill_debt_there.f s0_0 s0_1 s0_2 s0_3 s0_4 s0_5 s0_6 s0_7 s0_8 s0_9 s0_10 a1 = some (r1, r2, r3, r4, r5, r6, r7, r8, r9, r10, r11, r12)) :
  Calls Tryd.prog 20 #[.pointer (some ⟨g, 0, none⟩), .int .i64 a1] w fun e w' => e = .returned (.bool r1) ∧ IsS60 w0 w' g r2 r3 r4 r5 r6 r7 r8 r9 r10 r11 r12 ∧ Below w0.heap.size w0 w' ∧ KeepBut w w' g none := by
 have HI0 := Aside0.mk hI
 have HK := Aside0.mk (KeepBut.refl w g none)
 have HL := Aside0.mk hB.size
 clear hI
 have HW0 := Aside0.mk hB.size
 have HB := Aside0.mk hB
 clear hB
 have H := h
 unfold bill_debt_there.f at H
 clear h
 by_cases c3 : s0_1 ≤ a1
 ·rw [if_pos c3] at H
  have c3b0 : decide (s0_1 ≤ a1) = true := decide_eq_true c3
  clear c3
  simp only [Option.some.injEq, Prod.mk.injEq] at H
  obtain ⟨rfl, rfl, rfl, rfl, rfl, rfl, rfl, rfl, rfl, rfl, rfl, rfl⟩ := H
  obtain ⟨HGz4, hgz4⟩ := HI0.out
  have hcz4_0 := cellS60_0 HGz4
  have hcz4_1 := cellS60_1 HGz4
  have hcz4_2 := cellS60_2 HGz4
  have hcz4_3 := cellS60_3 HGz4
  have hcz4_4 := cellS60_4 HGz4
  have hcz4_5 := cellS60_5 HGz4
  have hcz4_6 := cellS60_6 HGz4
  have hcz4_7 := cellS60_7 HGz4
  have hcz4_8 := cellS60_8 HGz4
  have hcz4_9 := cellS60_9 HGz4
  have hcz4_10 := cellS60_10 HGz4
  have hfz4_0 := blk_frozen HGz4 0
  have hfz4_1 := blk_frozen HGz4 1
  have hfz4_2 := blk_frozen HGz4 2
  have hfz4_3 := blk_frozen HGz4 3
  have hfz4_4 := blk_frozen HGz4 4
  have hfz4_5 := blk_frozen HGz4 5
  have hfz4_6 := blk_frozen HGz4 6
  have hfz4_7 := blk_frozen HGz4 7
  have hfz4_8 := blk_frozen HGz4 8
  have hfz4_9 := blk_frozen HGz4 9
  have hfz4_10 := blk_frozen HGz4 10
  clear HGz4 hgz4
  go_enter Tryd.func20, Tryd.ntmps20
  go_wp2
  go_ret
  exact ⟨by first | rfl | (simp [errW_none, errW_some] <;> rfl) | (simp [*, errW_none, errW_some] <;> rfl), by repeat (first | (with_reducible first | exact HI0.out | apply IsS60.alloc | apply IsS60.drewN | apply IsS60.drew | apply IsS60.set_0 | apply IsS60.set_1 | apply IsS60.set_2 | apply IsS60.set_3 | apply IsS60.set_4 | apply IsS60.set_5 | apply IsS60.set_6 | apply IsS60.set_7 | apply IsS60.set_8 | apply IsS60.set_9 | apply IsS60.set_10) | exact HI0.out), by repeat (first | (with_reducible first | exact HB.out | apply below_alloc | apply pw_below_drewN | apply below_drew1 | refine below_set ?_ (IsS60.ge HI0.out)) | exact HB.out), by repeat (first | (with_reducible first | exact HK.out | apply KeepBut.set_ | apply keep_drewN | apply keep_drew | apply keep_alloc) | exact HK.out)⟩
 ·rw [if_neg c3] at H
  have c3b0 : decide (s0_1 ≤ a1) = false := decide_eq_false c3
  clear c3
  simp only [Option.some.injEq, Prod.mk.injEq] at H
  obtain ⟨rfl, rfl, rfl, rfl, rfl, rfl, rfl, rfl, rfl, rfl, rfl, rfl⟩ := H
  obtain ⟨HGz5, hgz5⟩ := HI0.out
  have hcz5_0 := cellS60_0 HGz5
  have hcz5_1 := cellS60_1 HGz5
  have hcz5_2 := cellS60_2 HGz5
  have hcz5_3 := cellS60_3 HGz5
  have hcz5_4 := cellS60_4 HGz5
  have hcz5_5 := cellS60_5 HGz5
  have hcz5_6 := cellS60_6 HGz5
  have hcz5_7 := cellS60_7 HGz5
  have hcz5_8 := cellS60_8 HGz5
  have hcz5_9 := cellS60_9 HGz5
  have hcz5_10 := cellS60_10 HGz5
  have hfz5_0 := blk_frozen HGz5 0
  have hfz5_1 := blk_frozen HGz5 1
  have hfz5_2 := blk_frozen HGz5 2
  have hfz5_3 := blk_frozen HGz5 3
  have hfz5_4 := blk_frozen HGz5 4
  have hfz5_5 := blk_frozen HGz5 5
  have hfz5_6 := blk_frozen HGz5 6
  have hfz5_7 := blk_frozen HGz5 7
  have hfz5_8 := blk_frozen HGz5 8
  have hfz5_9 := blk_frozen HGz5 9
  have hfz5_10 := blk_frozen HGz5 10
  clear HGz5 hgz5
  go_enter Tryd.func20, Tryd.ntmps20
  go_wp2
  go_ret
  exact ⟨by first | rfl | (simp [errW_none, errW_some] <;> rfl) | (simp [*, errW_none, errW_some] <;> rfl), by repeat (first | (with_reducible first | exact HI0.out | apply IsS60.alloc | apply IsS60.drewN | apply IsS60.drew | apply IsS60.set_0 | apply IsS60.set_1 | apply IsS60.set_2 | apply IsS60.set_3 | apply IsS60.set_4 | apply IsS60.set_5 | apply IsS60.set_6 | apply IsS60.set_7 | apply IsS60.set_8 | apply IsS60.set_9 | apply IsS60.set_10) | exact HI0.out), by repeat (first | (with_reducible first | exact HB.out | apply below_alloc | apply pw_below_drewN | apply below_drew1 | refine below_set ?_ (IsS60.ge HI0.out)) | exact HB.out), by repeat (first | (with_reducible first | exact HK.out | apply KeepBut.set_ | apply keep_drewN | apply keep_drew | apply keep_alloc) | exact HK.out)⟩

end Go.Proofs.YtaihfoihlbileaaDoor.R4
