-- Made by a program of this session out of the translation (wip/pp.py): functions, contracts.
import Derived.Test.YthgefhnolmloiaaGreatDoorP3x0
import Derived.Test.YthgefhnolmloiaaGreatDoorP3x7
import Derived.Test.YthgefhnolmloiaaGreatDoorP3x13
import Derived.Test.YthgefhnolmloiaaGreatDoorP3x15
namespace Go.Proofs.YthgefhnolmloiaaGreatDoor.P3
open Go.RowKit Go.Proofs.YthgefhnolmloiaaGreatDoorW.PrintWords Go.Proofs.YthgefhnolmloiaaGreatDoorW.PrintLast Go.Proofs.YthgefhnolmloiaaGreatDoorW.PrintMore
attribute [local go_sem] max2_int min2_int max_two min_two max_three min_three max_four min_four   -- for this text's walks alone
set_option linter.unusedVariables false
set_option linter.unusedSimpArgs false

/-! ### parcel_parcelFault: function 25 -/
def parcel_parcelFault.j0 : Nat → Bool → ByteArray → ByteArray → Int → Int → List (S66) → Option (Int)
 | 0, _, _, _, _, _, _ => none
 | k + 1, x27, x381000, x381001, x381002, x381003, x381004 => if x27 = true then (some 8) else ((order_QuantityFault.f k x381002 x381003 true).bind fun t383 => (if t383 = 0 then ((parcel_contentsFault.f k x381004).bind fun t384 => (some t384)) else (some t383)))
def parcel_parcelFault.f (k : Nat) (l0 : List (S42)) (a1 : Int) : Option (Int) := if 0 ≤ a1 then (if a1 < (l0.length : Int) then ((parcel_isLabel.f k ((rd_T42 l0 a1).f0)).bind fun t381 => (if t381 = true then (if a1 > 0 then (if 0 ≤ (wrap64 (a1 - 1)) then (if (wrap64 (a1 - 1)) < (l0.length : Int) then (parcel_parcelFault.j0 k (!(Op.bytesLess (((rd_T42 l0 (wrap64 (a1 - 1))).f0).toList) (((rd_T42 l0 a1).f0).toList))) ((rd_T42 l0 a1).f0) ((rd_T42 l0 a1).f1) ((rd_T42 l0 a1).f2.f0) ((rd_T42 l0 a1).f2.f1) ((rd_T42 l0 a1).f3)) else (none)) else (none)) else (parcel_parcelFault.j0 k false ((rd_T42 l0 a1).f0) ((rd_T42 l0 a1).f1) ((rd_T42 l0 a1).f2.f0) ((rd_T42 l0 a1).f2.f1) ((rd_T42 l0 a1).f3))) else (some 3))) else (none)) else (none)
theorem parcel_parcelFault.mono_l : ∀ k, (∀ y0 y1 y2 y3 y4 y5, LeO (parcel_parcelFault.j0 k y0 y1 y2 y3 y4 y5) (parcel_parcelFault.j0 (k + 1) y0 y1 y2 y3 y4 y5))
 | 0 => fun _ _ _ _ _ _ r h => by simp [parcel_parcelFault.j0] at h
 | k + 1 => by
  have ih0 := parcel_parcelFault.mono_l k
  ·intro y0 y1 y2 y3 y4 y5
   unfold parcel_parcelFault.j0
   repeat' first | with_reducible first | exact ih0 _ _ _ _ _ _ | exact order_QuantityFault.mono _ _ _ _ | exact parcel_contentsFault.mono _ _ | exact parcel_isLabel.mono _ _ | exact lr _ | exact ln _ | refine li ?_ ?_ | refine lb ?_ fun _ => ?_ | exact ih0 _ _ _ _ _ _ | exact order_QuantityFault.mono _ _ _ _ | exact parcel_contentsFault.mono _ _ | exact parcel_isLabel.mono _ _ | exact ln _ | refine li ?_ ?_ | refine lb ?_ fun _ => ?_
theorem parcel_parcelFault.mono : ∀ a0 a1 k, LeO (parcel_parcelFault.f k a0 a1) (parcel_parcelFault.f (k + 1) a0 a1) := by
 intro a0 a1 k
 have ih0 := parcel_parcelFault.mono_l k
 unfold parcel_parcelFault.f
 repeat' first | with_reducible first | exact ih0 _ _ _ _ _ _ | exact order_QuantityFault.mono _ _ _ _ | exact parcel_contentsFault.mono _ _ | exact parcel_isLabel.mono _ _ | exact lr _ | exact ln _ | refine li ?_ ?_ | refine lb ?_ fun _ => ?_ | exact ih0 _ _ _ _ _ _ | exact order_QuantityFault.mono _ _ _ _ | exact parcel_contentsFault.mono _ _ | exact parcel_isLabel.mono _ _ | exact ln _ | refine li ?_ ?_ | refine lb ?_ fun _ => ?_
set_option maxHeartbeats 8000000 in
set_option maxRecDepth 100000 in
theorem parcel_parcelFault.calls (k : Nat) (A0 : Option Addr) (c0 : Nat) (l0 : List (S42)) (a1 : Int) (r : Int) (w : World) (hr0 : Kd.C k42 w A0 l0.length l0) (hc0 : l0.length ≤ c0) (h : parcel_parcelFault.f k l0 a1 = some r) :
  Calls Tryz.prog 25 #[.slice A0 l0.length c0, .int .i64 a1] w fun e w' => e = .returned (.int .i64 r) ∧ Below w.heap.size w w' := by
 have hsq1_ := R_str_leq
 have hsq2_ := R_str_gtr
 have hsq3_ := R_str_geq
 have hu42 := Tryz.underlying42
 have hu39 := Tryz.underlying39
 have HR0 := Aside0.mk hr0
 have HC0 := Aside0.mk hc0
 clear hr0 hc0
 have HB := Aside0.mk (Below.refl w.heap.size w)
 have H := h
 unfold parcel_parcelFault.f at H
 clear h
 by_cases c3 : 0 ≤ a1
 ·rw [if_pos c3] at H
  have c3b0 : decide (0 ≤ a1) = true := decide_eq_true c3
  clear c3
  by_cases c4 : a1 < (l0.length : Int)
  ·rw [if_pos c4] at H
   have c4b0 : decide (a1 < (l0.length : Int)) = true := decide_eq_true c4
   clear c4
   replace H := Option.bind_eq_some_iff.mp H
   obtain ⟨t381, A50, H⟩ := H
   try dsimp only at H
   have A5 := Aside0.mk A50
   clear A50
   by_cases c6 : t381 = true
   ·subst c6
    have H1 : (if a1 > 0 then (if 0 ≤ (wrap64 (a1 - 1)) then (if (wrap64 (a1 - 1)) < (l0.length : Int) then (parcel_parcelFault.j0 k (!(Op.bytesLess (((rd_T42 l0 (wrap64 (a1 - 1))).f0).toList) (((rd_T42 l0 a1).f0).toList))) ((rd_T42 l0 a1).f0) ((rd_T42 l0 a1).f1) ((rd_T42 l0 a1).f2.f0) ((rd_T42 l0 a1).f2.f1) ((rd_T42 l0 a1).f3)) else (none)) else (none)) else (parcel_parcelFault.j0 k false ((rd_T42 l0 a1).f0) ((rd_T42 l0 a1).f1) ((rd_T42 l0 a1).f2.f0) ((rd_T42 l0 a1).f2.f1) ((rd_T42 l0 a1).f3))) = some r := by rw [if_pos rfl] at H; exact H
    clear H
    have H := H1
    clear H1
    have HC7 := Aside0.mk H
    clear H
    have p379 : 0 ≤ (a1 : Int) := of_decide_eq_true (by assumption)
    have q379 : a1 < (l0.length : Int) := of_decide_eq_true (by assumption)
    obtain ⟨ad379, A379_4, c379_4, e379, hx379_0, hx379_1, hx379_2, hx379_3, hx379_4, hl379_4, hi379_4⟩ := at_T42 HR0.out a1 p379 q379
    cases e379
    have HR379_4 := Aside0.mk hi379_4
    have HC379_4 := Aside0.mk hl379_4
    clear hi379_4 hl379_4
    replace p379 := eq_true p379
    replace q379 := eq_true q379
    go_enter Tryz.func25, Tryz.ntmps25
    go_upto_region 4 with (first | ((with_reducible refine gD 5 rfl ?_); refine bx w 5 #[.string (⟨#[]⟩ : ByteArray), .string (⟨#[]⟩ : ByteArray), .int .i64 0, .int .i64 0, .slice none 0 0] 42 ?_; intro gb380 hg w8 hb BK380 GW380 GE380; clear HB; intro HB; clear hb hg; obtain ⟨hcz9_0, hcz9_1, hcz9_2, hcz9_3, hcz9_4, hfz9_0, hfz9_1, hfz9_2, hfz9_3, hfz9_4⟩ := cz5 BK380) | (go_at_call 45; (with_reducible refine (parcel_isLabel.calls k ((rd_T42 l0 a1).f0) true _ A5.out).mono ?_); rintro e w10 ⟨rfl, hb⟩; replace BK380 := Aside0.mk (blk_below (g := gb380) (o := .cells #[.string ((rd_T42 l0 a1).f0), .string ((rd_T42 l0 a1).f1), .int .i64 ((rd_T42 l0 a1).f2.f0), .int .i64 ((rd_T42 l0 a1).f2.f1), .slice A379_4 ((rd_T42 l0 a1).f3).length c379_4] 42 (0, 0)) (by (with_reducible repeat (first | refine blk_drewN ?_ _ | refine blk_drew ?_ | refine blk_alloc ?_ _)); refine blk_put (cs := #[.string ((rd_T42 l0 a1).f0), .string ((rd_T42 l0 a1).f1), .int .i64 ((rd_T42 l0 a1).f2.f0), .int .i64 ((rd_T42 l0 a1).f2.f1), .slice none 0 0]) ?_ 4 _ rfl; (with_reducible repeat (first | refine blk_drewN ?_ _ | refine blk_drew ?_ | refine blk_alloc ?_ _)); refine blk_put (cs := #[.string ((rd_T42 l0 a1).f0), .string ((rd_T42 l0 a1).f1), .int .i64 ((rd_T42 l0 a1).f2.f0), .int .i64 0, .slice none 0 0]) ?_ 3 _ rfl; (with_reducible repeat (first | refine blk_drewN ?_ _ | refine blk_drew ?_ | refine blk_alloc ?_ _)); refine blk_put (cs := #[.string ((rd_T42 l0 a1).f0), .string ((rd_T42 l0 a1).f1), .int .i64 0, .int .i64 0, .slice none 0 0]) ?_ 2 _ rfl; (with_reducible repeat (first | refine blk_drewN ?_ _ | refine blk_drew ?_ | refine blk_alloc ?_ _)); refine blk_put (cs := #[.string ((rd_T42 l0 a1).f0), .string (⟨#[]⟩ : ByteArray), .int .i64 0, .int .i64 0, .slice none 0 0]) ?_ 1 _ rfl; (with_reducible repeat (first | refine blk_drewN ?_ _ | refine blk_drew ?_ | refine blk_alloc ?_ _)); refine blk_put (cs := #[.string (⟨#[]⟩ : ByteArray), .string (⟨#[]⟩ : ByteArray), .int .i64 0, .int .i64 0, .slice none 0 0]) ?_ 0 _ rfl; exact zk BK380) hb); replace HB := hs w hb; (try clear hb)))
    repeat (go_quiet (first | ((with_reducible refine gD 5 rfl ?_); refine bx w 5 #[.string (⟨#[]⟩ : ByteArray), .string (⟨#[]⟩ : ByteArray), .int .i64 0, .int .i64 0, .slice none 0 0] 42 ?_; intro gb380 hg w8 hb BK380 GW380 GE380; clear HB; intro HB; clear hb hg; obtain ⟨hcz9_0, hcz9_1, hcz9_2, hcz9_3, hcz9_4, hfz9_0, hfz9_1, hfz9_2, hfz9_3, hfz9_4⟩ := cz5 BK380) | (go_at_call 45; (with_reducible refine (parcel_isLabel.calls k ((rd_T42 l0 a1).f0) true _ A5.out).mono ?_); rintro e w10 ⟨rfl, hb⟩; replace BK380 := Aside0.mk (blk_below (g := gb380) (o := .cells #[.string ((rd_T42 l0 a1).f0), .string ((rd_T42 l0 a1).f1), .int .i64 ((rd_T42 l0 a1).f2.f0), .int .i64 ((rd_T42 l0 a1).f2.f1), .slice A379_4 ((rd_T42 l0 a1).f3).length c379_4] 42 (0, 0)) (by (with_reducible repeat (first | refine blk_drewN ?_ _ | refine blk_drew ?_ | refine blk_alloc ?_ _)); refine blk_put (cs := #[.string ((rd_T42 l0 a1).f0), .string ((rd_T42 l0 a1).f1), .int .i64 ((rd_T42 l0 a1).f2.f0), .int .i64 ((rd_T42 l0 a1).f2.f1), .slice none 0 0]) ?_ 4 _ rfl; (with_reducible repeat (first | refine blk_drewN ?_ _ | refine blk_drew ?_ | refine blk_alloc ?_ _)); refine blk_put (cs := #[.string ((rd_T42 l0 a1).f0), .string ((rd_T42 l0 a1).f1), .int .i64 ((rd_T42 l0 a1).f2.f0), .int .i64 0, .slice none 0 0]) ?_ 3 _ rfl; (with_reducible repeat (first | refine blk_drewN ?_ _ | refine blk_drew ?_ | refine blk_alloc ?_ _)); refine blk_put (cs := #[.string ((rd_T42 l0 a1).f0), .string ((rd_T42 l0 a1).f1), .int .i64 0, .int .i64 0, .slice none 0 0]) ?_ 2 _ rfl; (with_reducible repeat (first | refine blk_drewN ?_ _ | refine blk_drew ?_ | refine blk_alloc ?_ _)); refine blk_put (cs := #[.string ((rd_T42 l0 a1).f0), .string (⟨#[]⟩ : ByteArray), .int .i64 0, .int .i64 0, .slice none 0 0]) ?_ 1 _ rfl; (with_reducible repeat (first | refine blk_drewN ?_ _ | refine blk_drew ?_ | refine blk_alloc ?_ _)); refine blk_put (cs := #[.string (⟨#[]⟩ : ByteArray), .string (⟨#[]⟩ : ByteArray), .int .i64 0, .int .i64 0, .slice none 0 0]) ?_ 0 _ rfl; exact zk BK380) hb); replace HB := hs w hb; (try clear hb))); go_upto_region 4 with (first | ((with_reducible refine gD 5 rfl ?_); refine bx w 5 #[.string (⟨#[]⟩ : ByteArray), .string (⟨#[]⟩ : ByteArray), .int .i64 0, .int .i64 0, .slice none 0 0] 42 ?_; intro gb380 hg w8 hb BK380 GW380 GE380; clear HB; intro HB; clear hb hg; obtain ⟨hcz9_0, hcz9_1, hcz9_2, hcz9_3, hcz9_4, hfz9_0, hfz9_1, hfz9_2, hfz9_3, hfz9_4⟩ := cz5 BK380) | (go_at_call 45; (with_reducible refine (parcel_isLabel.calls k ((rd_T42 l0 a1).f0) true _ A5.out).mono ?_); rintro e w10 ⟨rfl, hb⟩; replace BK380 := Aside0.mk (blk_below (g := gb380) (o := .cells #[.string ((rd_T42 l0 a1).f0), .string ((rd_T42 l0 a1).f1), .int .i64 ((rd_T42 l0 a1).f2.f0), .int .i64 ((rd_T42 l0 a1).f2.f1), .slice A379_4 ((rd_T42 l0 a1).f3).length c379_4] 42 (0, 0)) (by (with_reducible repeat (first | refine blk_drewN ?_ _ | refine blk_drew ?_ | refine blk_alloc ?_ _)); refine blk_put (cs := #[.string ((rd_T42 l0 a1).f0), .string ((rd_T42 l0 a1).f1), .int .i64 ((rd_T42 l0 a1).f2.f0), .int .i64 ((rd_T42 l0 a1).f2.f1), .slice none 0 0]) ?_ 4 _ rfl; (with_reducible repeat (first | refine blk_drewN ?_ _ | refine blk_drew ?_ | refine blk_alloc ?_ _)); refine blk_put (cs := #[.string ((rd_T42 l0 a1).f0), .string ((rd_T42 l0 a1).f1), .int .i64 ((rd_T42 l0 a1).f2.f0), .int .i64 0, .slice none 0 0]) ?_ 3 _ rfl; (with_reducible repeat (first | refine blk_drewN ?_ _ | refine blk_drew ?_ | refine blk_alloc ?_ _)); refine blk_put (cs := #[.string ((rd_T42 l0 a1).f0), .string ((rd_T42 l0 a1).f1), .int .i64 0, .int .i64 0, .slice none 0 0]) ?_ 2 _ rfl; (with_reducible repeat (first | refine blk_drewN ?_ _ | refine blk_drew ?_ | refine blk_alloc ?_ _)); refine blk_put (cs := #[.string ((rd_T42 l0 a1).f0), .string (⟨#[]⟩ : ByteArray), .int .i64 0, .int .i64 0, .slice none 0 0]) ?_ 1 _ rfl; (with_reducible repeat (first | refine blk_drewN ?_ _ | refine blk_drew ?_ | refine blk_alloc ?_ _)); refine blk_put (cs := #[.string (⟨#[]⟩ : ByteArray), .string (⟨#[]⟩ : ByteArray), .int .i64 0, .int .i64 0, .slice none 0 0]) ?_ 0 _ rfl; exact zk BK380) hb); replace HB := hs w hb; (try clear hb))))
    (try simp only [sq])
    go_cut [27] (fun v27 wc => ∃ (kq : Nat) (x27_6 : Bool), v27 = .bool x27_6 ∧ Aside0 (parcel_parcelFault.j0 kq x27_6 ((rd_T42 l0 a1).f0) ((rd_T42 l0 a1).f1) ((rd_T42 l0 a1).f2.f0) ((rd_T42 l0 a1).f2.f1) ((rd_T42 l0 a1).f3) = some r) ∧ Aside0 (kq ≤ k) ∧ Aside0 (wc.heap[gb380]? = some (.cells #[.string ((rd_T42 l0 a1).f0), .string ((rd_T42 l0 a1).f1), .int .i64 ((rd_T42 l0 a1).f2.f0), .int .i64 ((rd_T42 l0 a1).f2.f1), (.slice A379_4 ((rd_T42 l0 a1).f3).length c379_4)] 42 (0, 0))) ∧ Aside0 (Below w.heap.size w wc))
    case first =>
     have H := HC7.out
     clear HC7
     by_cases c11 : a1 > 0
     ·rw [if_pos c11] at H
      have c11b0 : decide (0 < a1) = true := decide_eq_true c11
      clear c11
      (first | rw [c11b0] | (simp only [i64_w, i32_w]; rw [c11b0]) | skip)
      obtain ⟨ji12, hji12⟩ : ∃ j_ : Int, (wrap64 (a1 - 1)) = j_ := ⟨_, rfl⟩
      replace H : (if 0 ≤ (ji12) then (if (ji12) < (l0.length : Int) then (parcel_parcelFault.j0 k (!(Op.bytesLess (((rd_T42 l0 (ji12)).f0).toList) (((rd_T42 l0 a1).f0).toList))) ((rd_T42 l0 a1).f0) ((rd_T42 l0 a1).f1) ((rd_T42 l0 a1).f2.f0) ((rd_T42 l0 a1).f2.f1) ((rd_T42 l0 a1).f3)) else (none)) else (none)) = some r := by first | (rw [hji12] at H; exact H) | (simp only [hji12] at H ⊢; exact H)
      have hji12w : (IntKind.i64.wrap (a1 - 1)) = ji12 := (i64_w _).trans hji12
      by_cases c13 : 0 ≤ (ji12)
      ·rw [if_pos c13] at H
       have c13b0 : decide (0 ≤ (ji12)) = true := decide_eq_true c13
       clear c13
       by_cases c14 : (ji12) < (l0.length : Int)
       ·rw [if_pos c14] at H
        have c14b0 : decide ((ji12) < (l0.length : Int)) = true := decide_eq_true c14
        clear c14
        have H' := Aside0.mk H
        clear H
        obtain ⟨hcz15_0, hcz15_1, hcz15_2, hcz15_3, hcz15_4, hfz15_0, hfz15_1, hfz15_2, hfz15_3, hfz15_4⟩ := cz5 BK380
        have p382 : 0 ≤ ((ji12) : Int) := of_decide_eq_true (by assumption)
        have q382 : (ji12) < (l0.length : Int) := of_decide_eq_true (by assumption)
        obtain ⟨ad382, A382_4, c382_4, e382, hx382_0, hx382_1, hx382_2, hx382_3, hx382_4, hl382_4, hi382_4⟩ := at_T42 HR0.out (ji12) p382 q382
        obtain rfl : ad379 = ad382 := (by injection e382)
        replace hx382_0 := hz HB hx382_0
        replace hx382_1 := hz HB hx382_1
        replace hx382_2 := hz HB hx382_2
        replace hx382_3 := hz HB hx382_3
        replace hx382_4 := hz HB hx382_4
        have HR382_4 := Aside0.mk hi382_4
        have HC382_4 := Aside0.mk hl382_4
        clear hi382_4 hl382_4
        replace p382 := eq_true p382
        replace q382 := eq_true q382
        go_wp2
        repeat (go_quiet (fail); try go_wp2)
        go_meet
        case rel => exact ⟨_, (!(Op.bytesLess (((rd_T42 l0 (ji12)).f0).toList) (((rd_T42 l0 a1).f0).toList))), (by first | rfl | (simp; done) | (simp only [← hji12] <;> (first | rfl | simp)) | (simp [*]; done)), H', ⟨by first | omega | exact Nat.le_refl _⟩, ⟨(zk BK380)⟩, ⟨(zb w)⟩⟩
       ·rw [if_neg c14] at H
        exact absurd H (by simp)
      ·rw [if_neg c13] at H
       exact absurd H (by simp)
     ·rw [if_neg c11] at H
      have c11b0 : decide (0 < a1) = false := decide_eq_false c11
      clear c11
      (first | rw [c11b0] | (simp only [i64_w, i32_w]; rw [c11b0]) | skip)
      have H' := Aside0.mk H
      clear H
      go_wp2
      repeat (go_quiet (fail); try go_wp2)
      go_meet
      case rel => exact ⟨_, (false), ar, H', ⟨by first | omega | exact Nat.le_refl _⟩, ⟨(zk BK380)⟩, ⟨(zb w)⟩⟩
    case rest =>
     clear HC7
     try clear c1
     try clear c2
     try clear p2
     try clear c3
     try clear c3b0
     try clear p3
     try clear q3
     try clear hx3
     try clear c4
     try clear c4b0
     try clear c6
     try clear p6
     try clear c11
     try clear c11b0
     try clear c13
     try clear c13b0
     try clear c14
     try clear c14b0
     try clear hcz15_0 hcz15_1 hcz15_2 hcz15_3 hcz15_4
     try clear hcz9_0 hcz9_1 hcz9_2 hcz9_3 hcz9_4
     try clear hfz15_0 hfz15_1 hfz15_2 hfz15_3 hfz15_4
     try clear hfz9_0 hfz9_1 hfz9_2 hfz9_3 hfz9_4
     try clear hx379_0
     try clear hx379_1
     try clear hx379_2
     try clear hx379_3
     try clear hx379_4
     try clear hx382_0
     try clear hx382_1
     try clear hx382_2
     try clear hx382_3
     try clear hx382_4
     try clear p379
     try clear p382
     try clear q379
     try clear q382
     obtain ⟨kq, x27_6, rfl, HA, HJ6, BK380, HB⟩ := hcut
     cases kq with
     | zero => exact absurd HA.out (by simp [parcel_parcelFault.j0])
     | succ kj6 =>
      have H := HA.out
      clear HA
      simp only [parcel_parcelFault.j0] at H
      by_cases c16 : x27_6 = true
      ·subst c16
       have H1 : (some 8) = some r := by rw [if_pos rfl] at H; exact H
       clear H
       have H := H1
       clear H1
       obtain rfl := Option.some.inj H
       go_wp2
       repeat (go_quiet (fail); try go_wp2)
       go_ret
       exact ⟨by first | rfl | (simp [errW_none, errW_some] <;> rfl) | (simp [*, errW_none, errW_some] <;> rfl), (zb w)⟩
      ·replace c16 := Bool.eq_false_iff.mpr c16
       subst c16
       have H1 : ((order_QuantityFault.f kj6 ((rd_T42 l0 a1).f2.f0) ((rd_T42 l0 a1).f2.f1) true).bind fun t383 => (if t383 = 0 then ((parcel_contentsFault.f kj6 ((rd_T42 l0 a1).f3)).bind fun t384 => (some t384)) else (some t383))) = some r := by rw [if_neg (show ¬ (false = true) by decide)] at H; exact H
       clear H
       have H := H1
       clear H1
       replace H := Option.bind_eq_some_iff.mp H
       obtain ⟨t383, A170, H⟩ := H
       try dsimp only at H
       have A17 := Aside0.mk A170
       clear A170
       by_cases c18 : t383 = 0
       ·rw [if_pos c18] at H
        have c18b0 : (t383 == 0) = true := beq_iff_eq.mpr c18
        have c18b1 : (t383 != 0) = false := bne_eq_false_iff_eq.mpr c18
        clear c18
        replace H := Option.bind_eq_some_iff.mp H
        obtain ⟨t384, A190, H⟩ := H
        try dsimp only at H
        have A19 := Aside0.mk A190
        clear A190
        obtain rfl := Option.some.inj H
        obtain ⟨hcz20_0, hcz20_1, hcz20_2, hcz20_3, hcz20_4, hfz20_0, hfz20_1, hfz20_2, hfz20_3, hfz20_4⟩ := cz5 BK380
        go_wp2_with (first | (go_at_call 46; (with_reducible refine (order_QuantityFault.calls kj6 ((rd_T42 l0 a1).f2.f0) ((rd_T42 l0 a1).f2.f1) true t383 _ A17.out).mono ?_); rintro e w21 ⟨rfl, hb⟩; replace BK380 := bb BK380 hb; replace HB := hs w hb; (try clear hb); obtain ⟨hcz22_0, hcz22_1, hcz22_2, hcz22_3, hcz22_4, hfz22_0, hfz22_1, hfz22_2, hfz22_3, hfz22_4⟩ := cz5 BK380) | (go_at_call 47; (with_reducible refine (parcel_contentsFault.calls kj6 _ _ ((rd_T42 l0 a1).f3) t384 _ (zc HR379_4) HC379_4.out A19.out).mono ?_); rintro e w23 ⟨rfl, hb⟩; replace BK380 := bb BK380 hb; replace HB := hs w hb; (try clear hb)))
        repeat (go_quiet (first | (go_at_call 46; (with_reducible refine (order_QuantityFault.calls kj6 ((rd_T42 l0 a1).f2.f0) ((rd_T42 l0 a1).f2.f1) true t383 _ A17.out).mono ?_); rintro e w21 ⟨rfl, hb⟩; replace BK380 := bb BK380 hb; replace HB := hs w hb; (try clear hb); obtain ⟨hcz22_0, hcz22_1, hcz22_2, hcz22_3, hcz22_4, hfz22_0, hfz22_1, hfz22_2, hfz22_3, hfz22_4⟩ := cz5 BK380) | (go_at_call 47; (with_reducible refine (parcel_contentsFault.calls kj6 _ _ ((rd_T42 l0 a1).f3) t384 _ (zc HR379_4) HC379_4.out A19.out).mono ?_); rintro e w23 ⟨rfl, hb⟩; replace BK380 := bb BK380 hb; replace HB := hs w hb; (try clear hb))); try go_wp2_with (first | (go_at_call 46; (with_reducible refine (order_QuantityFault.calls kj6 ((rd_T42 l0 a1).f2.f0) ((rd_T42 l0 a1).f2.f1) true t383 _ A17.out).mono ?_); rintro e w21 ⟨rfl, hb⟩; replace BK380 := bb BK380 hb; replace HB := hs w hb; (try clear hb); obtain ⟨hcz22_0, hcz22_1, hcz22_2, hcz22_3, hcz22_4, hfz22_0, hfz22_1, hfz22_2, hfz22_3, hfz22_4⟩ := cz5 BK380) | (go_at_call 47; (with_reducible refine (parcel_contentsFault.calls kj6 _ _ ((rd_T42 l0 a1).f3) t384 _ (zc HR379_4) HC379_4.out A19.out).mono ?_); rintro e w23 ⟨rfl, hb⟩; replace BK380 := bb BK380 hb; replace HB := hs w hb; (try clear hb))))
        go_ret
        exact ⟨by first | rfl | (simp [errW_none, errW_some] <;> rfl) | (simp [*, errW_none, errW_some] <;> rfl), (zb w)⟩
       ·rw [if_neg c18] at H
        have c18b0 : (t383 == 0) = false := beq_eq_false_iff_ne.mpr c18
        have c18b1 : (t383 != 0) = true := bne_iff_ne.mpr c18
        obtain rfl := Option.some.inj H
        obtain ⟨hcz24_0, hcz24_1, hcz24_2, hcz24_3, hcz24_4, hfz24_0, hfz24_1, hfz24_2, hfz24_3, hfz24_4⟩ := cz5 BK380
        go_wp2_with (first | (go_at_call 46; (with_reducible refine (order_QuantityFault.calls kj6 ((rd_T42 l0 a1).f2.f0) ((rd_T42 l0 a1).f2.f1) true t383 _ A17.out).mono ?_); rintro e w25 ⟨rfl, hb⟩; replace BK380 := bb BK380 hb; replace HB := hs w hb; (try clear hb)))
        repeat (go_quiet (first | (go_at_call 46; (with_reducible refine (order_QuantityFault.calls kj6 ((rd_T42 l0 a1).f2.f0) ((rd_T42 l0 a1).f2.f1) true t383 _ A17.out).mono ?_); rintro e w25 ⟨rfl, hb⟩; replace BK380 := bb BK380 hb; replace HB := hs w hb; (try clear hb))); try go_wp2_with (first | (go_at_call 46; (with_reducible refine (order_QuantityFault.calls kj6 ((rd_T42 l0 a1).f2.f0) ((rd_T42 l0 a1).f2.f1) true t383 _ A17.out).mono ?_); rintro e w25 ⟨rfl, hb⟩; replace BK380 := bb BK380 hb; replace HB := hs w hb; (try clear hb))))
        go_ret
        exact ⟨by first | rfl | (simp [errW_none, errW_some] <;> rfl) | (simp [*, errW_none, errW_some] <;> rfl), (zb w)⟩
   ·replace c6 := Bool.eq_false_iff.mpr c6
    subst c6
    have H1 : (some 3) = some r := by rw [if_neg (show ¬ (false = true) by decide)] at H; exact H
    clear H
    have H := H1
    clear H1
    obtain rfl := Option.some.inj H
    have p379 : 0 ≤ (a1 : Int) := of_decide_eq_true (by assumption)
    have q379 : a1 < (l0.length : Int) := of_decide_eq_true (by assumption)
    obtain ⟨ad379, A379_4, c379_4, e379, hx379_0, hx379_1, hx379_2, hx379_3, hx379_4, hl379_4, hi379_4⟩ := at_T42 HR0.out a1 p379 q379
    cases e379
    have HR379_4 := Aside0.mk hi379_4
    have HC379_4 := Aside0.mk hl379_4
    clear hi379_4 hl379_4
    replace p379 := eq_true p379
    replace q379 := eq_true q379
    go_enter Tryz.func25, Tryz.ntmps25
    go_wp2_with (first | ((with_reducible refine gD 5 rfl ?_); refine bx w 5 #[.string (⟨#[]⟩ : ByteArray), .string (⟨#[]⟩ : ByteArray), .int .i64 0, .int .i64 0, .slice none 0 0] 42 ?_; intro gb380 hg w26 hb BK380 GW380 GE380; clear HB; intro HB; clear hb hg; obtain ⟨hcz27_0, hcz27_1, hcz27_2, hcz27_3, hcz27_4, hfz27_0, hfz27_1, hfz27_2, hfz27_3, hfz27_4⟩ := cz5 BK380) | (go_at_call 45; (with_reducible refine (parcel_isLabel.calls k ((rd_T42 l0 a1).f0) false _ A5.out).mono ?_); rintro e w28 ⟨rfl, hb⟩; replace BK380 := Aside0.mk (blk_below (g := gb380) (o := .cells #[.string ((rd_T42 l0 a1).f0), .string ((rd_T42 l0 a1).f1), .int .i64 ((rd_T42 l0 a1).f2.f0), .int .i64 ((rd_T42 l0 a1).f2.f1), .slice A379_4 ((rd_T42 l0 a1).f3).length c379_4] 42 (0, 0)) (by (with_reducible repeat (first | refine blk_drewN ?_ _ | refine blk_drew ?_ | refine blk_alloc ?_ _)); refine blk_put (cs := #[.string ((rd_T42 l0 a1).f0), .string ((rd_T42 l0 a1).f1), .int .i64 ((rd_T42 l0 a1).f2.f0), .int .i64 ((rd_T42 l0 a1).f2.f1), .slice none 0 0]) ?_ 4 _ rfl; (with_reducible repeat (first | refine blk_drewN ?_ _ | refine blk_drew ?_ | refine blk_alloc ?_ _)); refine blk_put (cs := #[.string ((rd_T42 l0 a1).f0), .string ((rd_T42 l0 a1).f1), .int .i64 ((rd_T42 l0 a1).f2.f0), .int .i64 0, .slice none 0 0]) ?_ 3 _ rfl; (with_reducible repeat (first | refine blk_drewN ?_ _ | refine blk_drew ?_ | refine blk_alloc ?_ _)); refine blk_put (cs := #[.string ((rd_T42 l0 a1).f0), .string ((rd_T42 l0 a1).f1), .int .i64 0, .int .i64 0, .slice none 0 0]) ?_ 2 _ rfl; (with_reducible repeat (first | refine blk_drewN ?_ _ | refine blk_drew ?_ | refine blk_alloc ?_ _)); refine blk_put (cs := #[.string ((rd_T42 l0 a1).f0), .string (⟨#[]⟩ : ByteArray), .int .i64 0, .int .i64 0, .slice none 0 0]) ?_ 1 _ rfl; (with_reducible repeat (first | refine blk_drewN ?_ _ | refine blk_drew ?_ | refine blk_alloc ?_ _)); refine blk_put (cs := #[.string (⟨#[]⟩ : ByteArray), .string (⟨#[]⟩ : ByteArray), .int .i64 0, .int .i64 0, .slice none 0 0]) ?_ 0 _ rfl; exact zk BK380) hb); replace HB := hs w hb; (try clear hb)))
    repeat (go_quiet (first | ((with_reducible refine gD 5 rfl ?_); refine bx w 5 #[.string (⟨#[]⟩ : ByteArray), .string (⟨#[]⟩ : ByteArray), .int .i64 0, .int .i64 0, .slice none 0 0] 42 ?_; intro gb380 hg w26 hb BK380 GW380 GE380; clear HB; intro HB; clear hb hg; obtain ⟨hcz27_0, hcz27_1, hcz27_2, hcz27_3, hcz27_4, hfz27_0, hfz27_1, hfz27_2, hfz27_3, hfz27_4⟩ := cz5 BK380) | (go_at_call 45; (with_reducible refine (parcel_isLabel.calls k ((rd_T42 l0 a1).f0) false _ A5.out).mono ?_); rintro e w28 ⟨rfl, hb⟩; replace BK380 := Aside0.mk (blk_below (g := gb380) (o := .cells #[.string ((rd_T42 l0 a1).f0), .string ((rd_T42 l0 a1).f1), .int .i64 ((rd_T42 l0 a1).f2.f0), .int .i64 ((rd_T42 l0 a1).f2.f1), .slice A379_4 ((rd_T42 l0 a1).f3).length c379_4] 42 (0, 0)) (by (with_reducible repeat (first | refine blk_drewN ?_ _ | refine blk_drew ?_ | refine blk_alloc ?_ _)); refine blk_put (cs := #[.string ((rd_T42 l0 a1).f0), .string ((rd_T42 l0 a1).f1), .int .i64 ((rd_T42 l0 a1).f2.f0), .int .i64 ((rd_T42 l0 a1).f2.f1), .slice none 0 0]) ?_ 4 _ rfl; (with_reducible repeat (first | refine blk_drewN ?_ _ | refine blk_drew ?_ | refine blk_alloc ?_ _)); refine blk_put (cs := #[.string ((rd_T42 l0 a1).f0), .string ((rd_T42 l0 a1).f1), .int .i64 ((rd_T42 l0 a1).f2.f0), .int .i64 0, .slice none 0 0]) ?_ 3 _ rfl; (with_reducible repeat (first | refine blk_drewN ?_ _ | refine blk_drew ?_ | refine blk_alloc ?_ _)); refine blk_put (cs := #[.string ((rd_T42 l0 a1).f0), .string ((rd_T42 l0 a1).f1), .int .i64 0, .int .i64 0, .slice none 0 0]) ?_ 2 _ rfl; (with_reducible repeat (first | refine blk_drewN ?_ _ | refine blk_drew ?_ | refine blk_alloc ?_ _)); refine blk_put (cs := #[.string ((rd_T42 l0 a1).f0), .string (⟨#[]⟩ : ByteArray), .int .i64 0, .int .i64 0, .slice none 0 0]) ?_ 1 _ rfl; (with_reducible repeat (first | refine blk_drewN ?_ _ | refine blk_drew ?_ | refine blk_alloc ?_ _)); refine blk_put (cs := #[.string (⟨#[]⟩ : ByteArray), .string (⟨#[]⟩ : ByteArray), .int .i64 0, .int .i64 0, .slice none 0 0]) ?_ 0 _ rfl; exact zk BK380) hb); replace HB := hs w hb; (try clear hb))); try go_wp2_with (first | ((with_reducible refine gD 5 rfl ?_); refine bx w 5 #[.string (⟨#[]⟩ : ByteArray), .string (⟨#[]⟩ : ByteArray), .int .i64 0, .int .i64 0, .slice none 0 0] 42 ?_; intro gb380 hg w26 hb BK380 GW380 GE380; clear HB; intro HB; clear hb hg; obtain ⟨hcz27_0, hcz27_1, hcz27_2, hcz27_3, hcz27_4, hfz27_0, hfz27_1, hfz27_2, hfz27_3, hfz27_4⟩ := cz5 BK380) | (go_at_call 45; (with_reducible refine (parcel_isLabel.calls k ((rd_T42 l0 a1).f0) false _ A5.out).mono ?_); rintro e w28 ⟨rfl, hb⟩; replace BK380 := Aside0.mk (blk_below (g := gb380) (o := .cells #[.string ((rd_T42 l0 a1).f0), .string ((rd_T42 l0 a1).f1), .int .i64 ((rd_T42 l0 a1).f2.f0), .int .i64 ((rd_T42 l0 a1).f2.f1), .slice A379_4 ((rd_T42 l0 a1).f3).length c379_4] 42 (0, 0)) (by (with_reducible repeat (first | refine blk_drewN ?_ _ | refine blk_drew ?_ | refine blk_alloc ?_ _)); refine blk_put (cs := #[.string ((rd_T42 l0 a1).f0), .string ((rd_T42 l0 a1).f1), .int .i64 ((rd_T42 l0 a1).f2.f0), .int .i64 ((rd_T42 l0 a1).f2.f1), .slice none 0 0]) ?_ 4 _ rfl; (with_reducible repeat (first | refine blk_drewN ?_ _ | refine blk_drew ?_ | refine blk_alloc ?_ _)); refine blk_put (cs := #[.string ((rd_T42 l0 a1).f0), .string ((rd_T42 l0 a1).f1), .int .i64 ((rd_T42 l0 a1).f2.f0), .int .i64 0, .slice none 0 0]) ?_ 3 _ rfl; (with_reducible repeat (first | refine blk_drewN ?_ _ | refine blk_drew ?_ | refine blk_alloc ?_ _)); refine blk_put (cs := #[.string ((rd_T42 l0 a1).f0), .string ((rd_T42 l0 a1).f1), .int .i64 0, .int .i64 0, .slice none 0 0]) ?_ 2 _ rfl; (with_reducible repeat (first | refine blk_drewN ?_ _ | refine blk_drew ?_ | refine blk_alloc ?_ _)); refine blk_put (cs := #[.string ((rd_T42 l0 a1).f0), .string (⟨#[]⟩ : ByteArray), .int .i64 0, .int .i64 0, .slice none 0 0]) ?_ 1 _ rfl; (with_reducible repeat (first | refine blk_drewN ?_ _ | refine blk_drew ?_ | refine blk_alloc ?_ _)); refine blk_put (cs := #[.string (⟨#[]⟩ : ByteArray), .string (⟨#[]⟩ : ByteArray), .int .i64 0, .int .i64 0, .slice none 0 0]) ?_ 0 _ rfl; exact zk BK380) hb); replace HB := hs w hb; (try clear hb))))
    go_ret
    exact ⟨by first | rfl | (simp [errW_none, errW_some] <;> rfl) | (simp [*, errW_none, errW_some] <;> rfl), (zb w)⟩
  ·rw [if_neg c4] at H
   exact absurd H (by simp)
 ·rw [if_neg c3] at H
  exact absurd H (by simp)

-- NOT PRINTED: function 48 (api_Parcel_string)

/-! ### parcel_parcelAt_1: function 49 -/
def parcel_parcelAt_1.f (a0_0 : ByteArray) (a0_1 : ByteArray) (a0_2 : Int) (a0_3 : Int) (l0_4 : List (S66)) (a1 : ByteArray) : Option (Int) := (strings_Compare.f a0_0 a1).bind fun t386 => (some t386)
set_option maxHeartbeats 8000000 in
set_option maxRecDepth 100000 in
theorem parcel_parcelAt_1.calls (a0_0 : ByteArray) (a0_1 : ByteArray) (a0_2 : Int) (a0_3 : Int) (A0_4 : Option Addr) (c0_4 : Nat) (l0_4 : List (S66)) (a1 : ByteArray) (r : Int) (w : World) (hr0_4 : Kd.C k66 w A0_4 l0_4.length l0_4) (hc0_4 : l0_4.length ≤ c0_4) (h : parcel_parcelAt_1.f a0_0 a0_1 a0_2 a0_3 l0_4 a1 = some r) :
  Calls Tryz.prog 49 #[.agg #[.string a0_0, .string a0_1, .int .i64 a0_2, .int .i64 a0_3, .slice A0_4 l0_4.length c0_4], .string a1] w fun e w' => e = .returned (.int .i64 r) ∧ Below w.heap.size w w' := by
 have hu42 := Tryz.underlying42
 have HR0_4 := Aside0.mk hr0_4
 have HC0_4 := Aside0.mk hc0_4
 clear hr0_4 hc0_4
 have HB := Aside0.mk (Below.refl w.heap.size w)
 have H := h
 unfold parcel_parcelAt_1.f at H
 clear h
 replace H := Option.bind_eq_some_iff.mp H
 obtain ⟨t386, A30, H⟩ := H
 try dsimp only at H
 have A3 := Aside0.mk A30
 clear A30
 obtain rfl := Option.some.inj H
 go_enter Tryz.func49, Tryz.ntmps49
 go_wp2_with (first | ((with_reducible refine gD 2 rfl ?_); refine bx w 2 #[.string a0_0, .string a0_1, .int .i64 a0_2, .int .i64 a0_3, .slice A0_4 l0_4.length c0_4] 42 ?_; intro gb385 hg w4 hb BK385 GW385 GE385; clear HB; intro HB; clear hb hg; obtain ⟨hcz5_0, hcz5_1, hcz5_2, hcz5_3, hcz5_4, hfz5_0, hfz5_1, hfz5_2, hfz5_3, hfz5_4⟩ := cz5 BK385) | ((with_reducible refine gC 50 rfl ?_); refine gl_ 8 Tryz.func50 #[.string a0_0, .string a1] ?_; (with_reducible refine (strings_Compare.calls a0_0 a1 t386 _ A3.out).mono ?_); rintro e w' ⟨rfl, ⟨nd, rfl⟩⟩; refine ⟨_, rfl, ?_⟩))
 go_ret
 exact ⟨by first | rfl | (simp [errW_none, errW_some] <;> rfl) | (simp [*, errW_none, errW_some] <;> rfl), (zb w)⟩

/-! ### api_Parcel_string__parcel_parcelAt_1: function 170 -/
def api_Parcel_string__parcel_parcelAt_1.l0 : Nat → List (S42) → ByteArray → Int → Int → Int → Option (Int × Bool)
 | 0, _, _, _, _, _ => none
 | k + 1, x0, x1, x8, x9, x10 => if x9 < x10 then (if 0 ≤ (wrap64 ((IntKind.u64.wrap (wrap64 (x9 + x10))) / 2)) then (if (wrap64 ((IntKind.u64.wrap (wrap64 (x9 + x10))) / 2)) < (x0.length : Int) then ((parcel_parcelAt_1.f ((rd_T42 x0 (wrap64 ((IntKind.u64.wrap (wrap64 (x9 + x10))) / 2))).f0) ((rd_T42 x0 (wrap64 ((IntKind.u64.wrap (wrap64 (x9 + x10))) / 2))).f1) ((rd_T42 x0 (wrap64 ((IntKind.u64.wrap (wrap64 (x9 + x10))) / 2))).f2.f0) ((rd_T42 x0 (wrap64 ((IntKind.u64.wrap (wrap64 (x9 + x10))) / 2))).f2.f1) ((rd_T42 x0 (wrap64 ((IntKind.u64.wrap (wrap64 (x9 + x10))) / 2))).f3) x1).bind fun t388 => (if t388 < 0 then (api_Parcel_string__parcel_parcelAt_1.l0 k x0 x1 x8 (wrap64 ((wrap64 ((IntKind.u64.wrap (wrap64 (x9 + x10))) / 2)) + 1)) x10) else (api_Parcel_string__parcel_parcelAt_1.l0 k x0 x1 x8 x9 (wrap64 ((IntKind.u64.wrap (wrap64 (x9 + x10))) / 2))))) else (none)) else (none)) else (if x9 < x8 then (if 0 ≤ x9 then (if x9 < (x0.length : Int) then ((parcel_parcelAt_1.f ((rd_T42 x0 x9).f0) ((rd_T42 x0 x9).f1) ((rd_T42 x0 x9).f2.f0) ((rd_T42 x0 x9).f2.f1) ((rd_T42 x0 x9).f3) x1).bind fun t390 => (some (x9, (t390 == 0)))) else (none)) else (none)) else (some (x9, false)))
def api_Parcel_string__parcel_parcelAt_1.f (k : Nat) (l0 : List (S42)) (a1 : ByteArray)  : Option (Int × Bool) := api_Parcel_string__parcel_parcelAt_1.l0 k l0 a1 (l0.length : Int) 0 (l0.length : Int)
theorem api_Parcel_string__parcel_parcelAt_1.mono_l : ∀ k, (∀ y0 y1 y2 y3 y4, LeO (api_Parcel_string__parcel_parcelAt_1.l0 k y0 y1 y2 y3 y4) (api_Parcel_string__parcel_parcelAt_1.l0 (k + 1) y0 y1 y2 y3 y4))
 | 0 => fun _ _ _ _ _ r h => by simp [api_Parcel_string__parcel_parcelAt_1.l0] at h
 | k + 1 => by
  have ih0 := api_Parcel_string__parcel_parcelAt_1.mono_l k
  ·intro y0 y1 y2 y3 y4
   unfold api_Parcel_string__parcel_parcelAt_1.l0
   repeat' first | with_reducible first | exact ih0 _ _ _ _ _ | exact lr _ | exact ln _ | refine li ?_ ?_ | refine lb ?_ fun _ => ?_ | exact ih0 _ _ _ _ _ | exact ln _ | refine li ?_ ?_ | refine lb ?_ fun _ => ?_
theorem api_Parcel_string__parcel_parcelAt_1.mono : ∀ a0 a1 k, LeO (api_Parcel_string__parcel_parcelAt_1.f k a0 a1) (api_Parcel_string__parcel_parcelAt_1.f (k + 1) a0 a1) := by
 intro a0 a1 k
 have ih0 := api_Parcel_string__parcel_parcelAt_1.mono_l k
 unfold api_Parcel_string__parcel_parcelAt_1.f
 repeat' first | with_reducible first | exact ih0 _ _ _ _ _ | exact lr _ | exact ln _ | refine li ?_ ?_ | refine lb ?_ fun _ => ?_ | exact ih0 _ _ _ _ _ | exact ln _ | refine li ?_ ?_ | refine lb ?_ fun _ => ?_
set_option maxHeartbeats 8000000 in
set_option maxRecDepth 100000 in
theorem api_Parcel_string__parcel_parcelAt_1.calls (k : Nat) (A0 : Option Addr) (c0 : Nat) (l0 : List (S42)) (a1 : ByteArray)  (r1 : Int) (r2 : Bool) (w : World) (hr0 : Kd.C k42 w A0 l0.length l0) (hc0 : l0.length ≤ c0) (h : api_Parcel_string__parcel_parcelAt_1.f k l0 a1 = some (r1, r2)) :
  Calls Tryz.prog 48 #[.slice A0 l0.length c0, .string a1, .func (.func 49) #[] #[]] w fun e w' => e = .returned (.tuple #[.int .i64 r1, .bool r2]) ∧ Below w.heap.size w w' := by
 have hu42 := Tryz.underlying42
 have HR0 := Aside0.mk hr0
 have HC0 := Aside0.mk hc0
 clear hr0 hc0
 have HB := Aside0.mk (Below.refl w.heap.size w)
 have H := h
 unfold api_Parcel_string__parcel_parcelAt_1.f at H
 clear h
 have H' := Aside0.mk H
 clear H
 go_enter Tryz.func48, Tryz.ntmps48
 go_wp2
 try simp only [sq]
 go_loopg [9, 10] k (fun kq v9 v10 w' => ∃ (x9_1 : Int) (x10_1 : Int), v9 = .int .i64 x9_1 ∧ v10 = .int .i64 x10_1 ∧ Aside0 (api_Parcel_string__parcel_parcelAt_1.l0 kq l0 a1 (l0.length : Int) x9_1 x10_1 = some (r1, r2)) ∧ Aside0 (kq ≤ k) ∧ Aside0 (Below w.heap.size w w'))
 case atStart => exact ⟨(0), ((l0.length : Int)), ar, ar, H', ⟨Nat.le_refl _⟩, ⟨(zb w)⟩⟩
 case round =>
  clear H'
  try clear c1
  try clear p2
  obtain ⟨x9_1, x10_1, rfl, rfl, HA, HK1, HB⟩ := hrel
  cases gk with
  | zero => exact absurd HA.out (by simp [api_Parcel_string__parcel_parcelAt_1.l0])
  | succ k1 =>
   have H := HA.out
   clear HA
   simp only [api_Parcel_string__parcel_parcelAt_1.l0] at H
   by_cases c4 : x9_1 < x10_1
   ·rw [if_pos c4] at H
    have c4b0 : decide (x9_1 < x10_1) = true := decide_eq_true c4
    clear c4
    obtain ⟨ji5, hji5⟩ : ∃ j_ : Int, (wrap64 ((IntKind.u64.wrap (wrap64 (x9_1 + x10_1))) / 2)) = j_ := ⟨_, rfl⟩
    replace H : (if 0 ≤ (ji5) then (if (ji5) < (l0.length : Int) then ((parcel_parcelAt_1.f ((rd_T42 l0 (ji5)).f0) ((rd_T42 l0 (ji5)).f1) ((rd_T42 l0 (ji5)).f2.f0) ((rd_T42 l0 (ji5)).f2.f1) ((rd_T42 l0 (ji5)).f3) a1).bind fun t388 => (if t388 < 0 then (api_Parcel_string__parcel_parcelAt_1.l0 k1 l0 a1 (l0.length : Int) (wrap64 ((ji5) + 1)) x10_1) else (api_Parcel_string__parcel_parcelAt_1.l0 k1 l0 a1 (l0.length : Int) x9_1 ji5))) else (none)) else (none)) = some (r1, r2) := by first | (rw [hji5] at H; exact H) | (simp only [hji5] at H ⊢; exact H)
    have hji5w : (IntKind.i64.wrap ((IntKind.u64.wrap (wrap64 (x9_1 + x10_1))) / 2)) = ji5 := (i64_w _).trans hji5
    by_cases c6 : 0 ≤ (ji5)
    ·rw [if_pos c6] at H
     have c6b0 : decide (0 ≤ (ji5)) = true := decide_eq_true c6
     clear c6
     by_cases c7 : (ji5) < (l0.length : Int)
     ·rw [if_pos c7] at H
      have c7b0 : decide ((ji5) < (l0.length : Int)) = true := decide_eq_true c7
      clear c7
      replace H := Option.bind_eq_some_iff.mp H
      obtain ⟨t388, A80, H⟩ := H
      try dsimp only at H
      have A8 := Aside0.mk A80
      clear A80
      by_cases c9 : t388 < 0
      ·rw [if_pos c9] at H
       have c9b0 : decide (t388 < 0) = true := decide_eq_true c9
       clear c9
       have H' := Aside0.mk H
       clear H
       have p387 : 0 ≤ ((ji5) : Int) := of_decide_eq_true (by assumption)
       have q387 : (ji5) < (l0.length : Int) := of_decide_eq_true (by assumption)
       obtain ⟨ad387, A387_4, c387_4, e387, hx387_0, hx387_1, hx387_2, hx387_3, hx387_4, hl387_4, hi387_4⟩ := at_T42 HR0.out (ji5) p387 q387
       cases e387
       replace hx387_0 := hz HB hx387_0
       replace hx387_1 := hz HB hx387_1
       replace hx387_2 := hz HB hx387_2
       replace hx387_3 := hz HB hx387_3
       replace hx387_4 := hz HB hx387_4
       have HR387_4 := Aside0.mk hi387_4
       have HC387_4 := Aside0.mk hl387_4
       clear hi387_4 hl387_4
       replace p387 := eq_true p387
       replace q387 := eq_true q387
       go_wp2_with (first | ((with_reducible refine gate_value rfl ?_); refine goesV_ (some 30) rfl rfl Tryz.func49 (by kernel_rfl) rfl (cb := #[]) #[.agg #[.string ((rd_T42 l0 (ji5)).f0), .string ((rd_T42 l0 (ji5)).f1), .int .i64 ((rd_T42 l0 (ji5)).f2.f0), .int .i64 ((rd_T42 l0 (ji5)).f2.f1), .slice A387_4 ((rd_T42 l0 (ji5)).f3).length c387_4], .string a1] rfl (by rfl) (by (try simp only [List.map_toArray, List.map_cons, List.map_nil]); first | done | (simp only [hji5]; rfl) | rfl | (simp only [List.length_drop, List.length_take]; rfl)) ?_; (with_reducible refine (parcel_parcelAt_1.calls ((rd_T42 l0 (ji5)).f0) ((rd_T42 l0 (ji5)).f1) ((rd_T42 l0 (ji5)).f2.f0) ((rd_T42 l0 (ji5)).f2.f1) _ _ ((rd_T42 l0 (ji5)).f3) a1 t388 _ (zc HR387_4) HC387_4.out A8.out).mono ?_); rintro e w10 ⟨rfl, hb⟩; refine ⟨_, rfl, ?_⟩; replace HB := hs w hb; (try clear hb)))
       go_roundg k1
       case measure => have := HK1.out; omega
       case rel => exact ⟨(wrap64 ((ji5) + 1)), (x10_1), (by first | rfl | (simp; done) | (simp only [← hji5] <;> (first | rfl | simp)) | (simp [*]; done)), ar, H', ⟨by have := HK1.out; omega⟩, ⟨(zb w)⟩⟩
      ·rw [if_neg c9] at H
       have c9b0 : decide (t388 < 0) = false := decide_eq_false c9
       clear c9
       have H' := Aside0.mk H
       clear H
       have p387 : 0 ≤ ((ji5) : Int) := of_decide_eq_true (by assumption)
       have q387 : (ji5) < (l0.length : Int) := of_decide_eq_true (by assumption)
       obtain ⟨ad387, A387_4, c387_4, e387, hx387_0, hx387_1, hx387_2, hx387_3, hx387_4, hl387_4, hi387_4⟩ := at_T42 HR0.out (ji5) p387 q387
       cases e387
       replace hx387_0 := hz HB hx387_0
       replace hx387_1 := hz HB hx387_1
       replace hx387_2 := hz HB hx387_2
       replace hx387_3 := hz HB hx387_3
       replace hx387_4 := hz HB hx387_4
       have HR387_4 := Aside0.mk hi387_4
       have HC387_4 := Aside0.mk hl387_4
       clear hi387_4 hl387_4
       replace p387 := eq_true p387
       replace q387 := eq_true q387
       go_wp2_with (first | ((with_reducible refine gate_value rfl ?_); refine goesV_ (some 30) rfl rfl Tryz.func49 (by kernel_rfl) rfl (cb := #[]) #[.agg #[.string ((rd_T42 l0 (ji5)).f0), .string ((rd_T42 l0 (ji5)).f1), .int .i64 ((rd_T42 l0 (ji5)).f2.f0), .int .i64 ((rd_T42 l0 (ji5)).f2.f1), .slice A387_4 ((rd_T42 l0 (ji5)).f3).length c387_4], .string a1] rfl (by rfl) (by (try simp only [List.map_toArray, List.map_cons, List.map_nil]); first | done | (simp only [hji5]; rfl) | rfl | (simp only [List.length_drop, List.length_take]; rfl)) ?_; (with_reducible refine (parcel_parcelAt_1.calls ((rd_T42 l0 (ji5)).f0) ((rd_T42 l0 (ji5)).f1) ((rd_T42 l0 (ji5)).f2.f0) ((rd_T42 l0 (ji5)).f2.f1) _ _ ((rd_T42 l0 (ji5)).f3) a1 t388 _ (zc HR387_4) HC387_4.out A8.out).mono ?_); rintro e w11 ⟨rfl, hb⟩; refine ⟨_, rfl, ?_⟩; replace HB := hs w hb; (try clear hb)))
       go_roundg k1
       case measure => have := HK1.out; omega
       case rel => exact ⟨(x9_1), (ji5), ar, (by first | rfl | (simp; done) | (simp only [← hji5] <;> (first | rfl | simp)) | (simp [*]; done)), H', ⟨by have := HK1.out; omega⟩, ⟨(zb w)⟩⟩
     ·rw [if_neg c7] at H
      exact absurd H (by simp)
    ·rw [if_neg c6] at H
     exact absurd H (by simp)
   ·rw [if_neg c4] at H
    have c4b0 : decide (x9_1 < x10_1) = false := decide_eq_false c4
    clear c4
    by_cases c12 : x9_1 < (l0.length : Int)
    ·rw [if_pos c12] at H
     have c12b0 : decide (x9_1 < (l0.length : Int)) = true := decide_eq_true c12
     clear c12
     by_cases c13 : 0 ≤ x9_1
     ·rw [if_pos c13] at H
      have c13b0 : decide (0 ≤ x9_1) = true := decide_eq_true c13
      clear c13
      by_cases c14 : x9_1 < (l0.length : Int)
      ·rw [if_pos c14] at H
       have c14b0 : decide (x9_1 < (l0.length : Int)) = true := decide_eq_true c14
       clear c14
       replace H := Option.bind_eq_some_iff.mp H
       obtain ⟨t390, A150, H⟩ := H
       try dsimp only at H
       have A15 := Aside0.mk A150
       clear A150
       simp only [Option.some.injEq, Prod.mk.injEq] at H
       obtain ⟨rfl, rfl⟩ := H
       have p389 : 0 ≤ (x9_1 : Int) := of_decide_eq_true (by assumption)
       have q389 : x9_1 < (l0.length : Int) := of_decide_eq_true (by assumption)
       obtain ⟨ad389, A389_4, c389_4, e389, hx389_0, hx389_1, hx389_2, hx389_3, hx389_4, hl389_4, hi389_4⟩ := at_T42 HR0.out x9_1 p389 q389
       cases e389
       replace hx389_0 := hz HB hx389_0
       replace hx389_1 := hz HB hx389_1
       replace hx389_2 := hz HB hx389_2
       replace hx389_3 := hz HB hx389_3
       replace hx389_4 := hz HB hx389_4
       have HR389_4 := Aside0.mk hi389_4
       have HC389_4 := Aside0.mk hl389_4
       clear hi389_4 hl389_4
       replace p389 := eq_true p389
       replace q389 := eq_true q389
       go_wp2_with (first | (go_at_call 49; (with_reducible refine (parcel_parcelAt_1.calls ((rd_T42 l0 x9_1).f0) ((rd_T42 l0 x9_1).f1) ((rd_T42 l0 x9_1).f2.f0) ((rd_T42 l0 x9_1).f2.f1) _ _ ((rd_T42 l0 x9_1).f3) a1 t390 _ (zc HR389_4) HC389_4.out A15.out).mono ?_); rintro e w16 ⟨rfl, hb⟩; replace HB := hs w hb; (try clear hb)))
       go_ret2
       exact ⟨by first | rfl | (simp [errW_none, errW_some] <;> rfl) | (simp [*, errW_none, errW_some] <;> rfl), (zb w)⟩
      ·rw [if_neg c14] at H
       exact absurd H (by simp)
     ·rw [if_neg c13] at H
      exact absurd H (by simp)
    ·rw [if_neg c12] at H
     have c12b0 : decide (x9_1 < (l0.length : Int)) = false := decide_eq_false c12
     clear c12
     simp only [Option.some.injEq, Prod.mk.injEq] at H
     obtain ⟨rfl, rfl⟩ := H
     go_wp2
     go_ret2
     exact ⟨by first | rfl | (simp [errW_none, errW_some] <;> rfl) | (simp [*, errW_none, errW_some] <;> rfl), (zb w)⟩

/-! ### parcel_parcelAt: function 29 -/
def parcel_parcelAt.f (k : Nat) (a0_0 : ByteArray) (a0_1 : ByteArray) (a0_2 : Int) (l0_3 : List (S42)) (a1 : ByteArray) : Option (Int × Bool) := (api_Parcel_string__parcel_parcelAt_1.f k l0_3 a1).bind fun bt392 => (some (bt392.1, bt392.2))
theorem parcel_parcelAt.mono : ∀ a0 a1 a2 a3 a4 k, LeO (parcel_parcelAt.f k a0 a1 a2 a3 a4) (parcel_parcelAt.f (k + 1) a0 a1 a2 a3 a4) := by
 intro a0 a1 a2 a3 a4 k
 unfold parcel_parcelAt.f
 repeat' first | with_reducible first | exact api_Parcel_string__parcel_parcelAt_1.mono _ _ _ | exact lr _ | exact ln _ | refine li ?_ ?_ | refine lb ?_ fun _ => ?_ | exact api_Parcel_string__parcel_parcelAt_1.mono _ _ _ | exact ln _ | refine li ?_ ?_ | refine lb ?_ fun _ => ?_
set_option maxHeartbeats 8000000 in
set_option maxRecDepth 100000 in
theorem parcel_parcelAt.calls (k : Nat) (a0_0 : ByteArray) (a0_1 : ByteArray) (a0_2 : Int) (A0_3 : Option Addr) (c0_3 : Nat) (l0_3 : List (S42)) (a1 : ByteArray) (r1 : Int) (r2 : Bool) (w : World) (hr0_3 : Kd.C k42 w A0_3 l0_3.length l0_3) (hc0_3 : l0_3.length ≤ c0_3) (h : parcel_parcelAt.f k a0_0 a0_1 a0_2 l0_3 a1 = some (r1, r2)) :
  Calls Tryz.prog 29 #[.agg #[.string a0_0, .string a0_1, .int .i64 a0_2, .slice A0_3 l0_3.length c0_3], .string a1] w fun e w' => e = .returned (.tuple #[.int .i64 r1, .bool r2]) ∧ Below w.heap.size w w' := by
 have hu24 := Tryz.underlying24
 have HR0_3 := Aside0.mk hr0_3
 have HC0_3 := Aside0.mk hc0_3
 clear hr0_3 hc0_3
 have HB := Aside0.mk (Below.refl w.heap.size w)
 have H := h
 unfold parcel_parcelAt.f at H
 clear h
 replace H := Option.bind_eq_some_iff.mp H
 obtain ⟨⟨t392, t393⟩, A30, H⟩ := H
 try dsimp only at H
 have A3 := Aside0.mk A30
 clear A30
 simp only [Option.some.injEq, Prod.mk.injEq] at H
 obtain ⟨rfl, rfl⟩ := H
 go_enter Tryz.func29, Tryz.ntmps29
 go_wp2_with (first | ((with_reducible refine gD 2 rfl ?_); refine bx w 2 #[.string a0_0, .string a0_1, .int .i64 a0_2, .slice A0_3 l0_3.length c0_3] 24 ?_; intro gb391 hg w4 hb BK391 GW391 GE391; clear HB; intro HB; clear hb hg; obtain ⟨hcz5_0, hcz5_1, hcz5_2, hcz5_3, hfz5_0, hfz5_1, hfz5_2, hfz5_3⟩ := cz4 BK391) | ((with_reducible refine gC 48 rfl ?_); refine gl_ 9 Tryz.func48 #[.slice A0_3 l0_3.length c0_3, .string a1, .func (.func 49) #[] #[]] ?_; (with_reducible refine (api_Parcel_string__parcel_parcelAt_1.calls k _ _ l0_3 a1  t392 t393 _ (zc HR0_3) HC0_3.out A3.out).mono ?_); rintro e w6 ⟨rfl, hb⟩; refine ⟨_, rfl, ?_⟩; replace BK391 := bb BK391 hb; replace HB := hs w hb; (try clear hb)))
 go_ret2
 exact ⟨by first | rfl | (simp [errW_none, errW_some] <;> rfl) | (simp [*, errW_none, errW_some] <;> rfl), (zb w)⟩

end Go.Proofs.YthgefhnolmloiaaGreatDoor.P3
