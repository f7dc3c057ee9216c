-- Made by a program of this session out of the translation (wip/pp.py): functions, contracts.
import Derived.Test.YthgefhnolmloiaaGreatDoorP3x0
import Derived.Test.YthgefhnolmloiaaGreatDoorP3x9
namespace Go.Proofs.YthgefhnolmloiaaGreatDoor.P3
open Go.RowKit Go.Proofs.YthgefhnolmloiaaGreatDoorW.PrintWords Go.Proofs.YthgefhnolmloiaaGreatDoorW.PrintLast Go.Proofs.YthgefhnolmloiaaGreatDoorW.PrintMore
attribute [local go_sem] max2_int min2_int max_two min_two max_three min_three max_four min_four   -- for this text's walks alone
set_option linter.unusedVariables false
set_option linter.unusedSimpArgs false

/-! ### interchangeref10_nests: function 22 -/
mutual
def interchangeref10_nests.l0 : Nat → List (S42) → List (S42) → Int → Int → Option (Int)
 | 0, _, _, _, _ => none
 | k + 1, x0, x9, x10, x11 => if x11 < x10 then (if 0 ≤ x11 then (if x11 < (x9.length : Int) then (if ((rd_T42 x9 x11).f1).toList = ([] : List UInt8) then (interchangeref10_nests.l0 k x0 x9 x10 (wrap64 (x11 + 1))) else ((interchangeref10_parcelOf.f k x0 ((rd_T42 x9 x11).f1)).bind fun t281 => (if t281 < 0 then (some 9) else (interchangeref10_nests.l0 k x0 x9 x10 (wrap64 (x11 + 1)))))) else (none)) else (none)) else (interchangeref10_nests.l1 k x0 (x0.length : Int) 0)
def interchangeref10_nests.l1 : Nat → List (S42) → Int → Int → Option (Int)
 | 0, _, _, _ => none
 | k + 1, x0, x27, x28 => if x28 < x27 then ((interchangeref10_loops.f k x0 x28).bind fun t282 => (if t282 = true then (some 17) else (interchangeref10_nests.l1 k x0 x27 (wrap64 (x28 + 1))))) else (interchangeref10_nests.l2 k x0 (x0.length : Int) 0)
def interchangeref10_nests.l2 : Nat → List (S42) → Int → Int → Option (Int)
 | 0, _, _, _ => none
 | k + 1, x0, x36, x37 => if x37 < x36 then ((interchangeref10_up.f k x0 x37).bind fun bt283 => (if bt283.2 = true then (if (wrap64 ((bt283.1.length : Int) - 1)) > 5 then (some 2) else (interchangeref10_nests.l2 k x0 x36 (wrap64 (x37 + 1)))) else (some 2))) else (some 0)
end
def interchangeref10_nests.f (k : Nat) (l0 : List (S42)) : Option (Int) := interchangeref10_nests.l0 k l0 l0 (l0.length : Int) 0
theorem interchangeref10_nests.mono_l : ∀ k, (∀ y0 y1 y2 y3, LeO (interchangeref10_nests.l0 k y0 y1 y2 y3) (interchangeref10_nests.l0 (k + 1) y0 y1 y2 y3)) ∧ (∀ y0 y1 y2, LeO (interchangeref10_nests.l1 k y0 y1 y2) (interchangeref10_nests.l1 (k + 1) y0 y1 y2)) ∧ (∀ y0 y1 y2, LeO (interchangeref10_nests.l2 k y0 y1 y2) (interchangeref10_nests.l2 (k + 1) y0 y1 y2))
 | 0 => ⟨fun _ _ _ _ r h => by simp [interchangeref10_nests.l0] at h, fun _ _ _ r h => by simp [interchangeref10_nests.l1] at h, fun _ _ _ r h => by simp [interchangeref10_nests.l2] at h⟩
 | k + 1 => by
  obtain ⟨ih0, ih1, ih2⟩ := interchangeref10_nests.mono_l k
  refine ⟨?_, ?_, ?_⟩
  ·intro y0 y1 y2 y3
   unfold interchangeref10_nests.l0
   repeat' first | with_reducible first | exact ih0 _ _ _ _ | exact ih1 _ _ _ | exact ih2 _ _ _ | exact interchangeref10_loops.mono _ _ _ | exact interchangeref10_parcelOf.mono _ _ _ | exact interchangeref10_up.mono _ _ _ | exact lr _ | exact ln _ | refine li ?_ ?_ | refine lb ?_ fun _ => ?_ | exact ih0 _ _ _ _ | exact ih1 _ _ _ | exact ih2 _ _ _ | exact interchangeref10_loops.mono _ _ _ | exact interchangeref10_parcelOf.mono _ _ _ | exact interchangeref10_up.mono _ _ _ | exact ln _ | refine li ?_ ?_ | refine lb ?_ fun _ => ?_
  ·intro y0 y1 y2
   unfold interchangeref10_nests.l1
   repeat' first | with_reducible first | exact ih0 _ _ _ _ | exact ih1 _ _ _ | exact ih2 _ _ _ | exact interchangeref10_loops.mono _ _ _ | exact interchangeref10_parcelOf.mono _ _ _ | exact interchangeref10_up.mono _ _ _ | exact lr _ | exact ln _ | refine li ?_ ?_ | refine lb ?_ fun _ => ?_ | exact ih0 _ _ _ _ | exact ih1 _ _ _ | exact ih2 _ _ _ | exact interchangeref10_loops.mono _ _ _ | exact interchangeref10_parcelOf.mono _ _ _ | exact interchangeref10_up.mono _ _ _ | exact ln _ | refine li ?_ ?_ | refine lb ?_ fun _ => ?_
  ·intro y0 y1 y2
   unfold interchangeref10_nests.l2
   repeat' first | with_reducible first | exact ih0 _ _ _ _ | exact ih1 _ _ _ | exact ih2 _ _ _ | exact interchangeref10_loops.mono _ _ _ | exact interchangeref10_parcelOf.mono _ _ _ | exact interchangeref10_up.mono _ _ _ | exact lr _ | exact ln _ | refine li ?_ ?_ | refine lb ?_ fun _ => ?_ | exact ih0 _ _ _ _ | exact ih1 _ _ _ | exact ih2 _ _ _ | exact interchangeref10_loops.mono _ _ _ | exact interchangeref10_parcelOf.mono _ _ _ | exact interchangeref10_up.mono _ _ _ | exact ln _ | refine li ?_ ?_ | refine lb ?_ fun _ => ?_
theorem interchangeref10_nests.mono : ∀ a0 k, LeO (interchangeref10_nests.f k a0) (interchangeref10_nests.f (k + 1) a0) := by
 intro a0 k
 obtain ⟨ih0, ih1, ih2⟩ := interchangeref10_nests.mono_l k
 unfold interchangeref10_nests.f
 repeat' first | with_reducible first | exact ih0 _ _ _ _ | exact ih1 _ _ _ | exact ih2 _ _ _ | exact interchangeref10_loops.mono _ _ _ | exact interchangeref10_parcelOf.mono _ _ _ | exact interchangeref10_up.mono _ _ _ | exact lr _ | exact ln _ | refine li ?_ ?_ | refine lb ?_ fun _ => ?_ | exact ih0 _ _ _ _ | exact ih1 _ _ _ | exact ih2 _ _ _ | exact interchangeref10_loops.mono _ _ _ | exact interchangeref10_parcelOf.mono _ _ _ | exact interchangeref10_up.mono _ _ _ | exact ln _ | refine li ?_ ?_ | refine lb ?_ fun _ => ?_
set_option maxHeartbeats 8000000 in
set_option maxRecDepth 100000 in
theorem interchangeref10_nests.calls (k : Nat) (A0 : Option Addr) (c0 : Nat) (l0 : List (S42)) (r : Int) (w : World) (hr0 : Kd.C k42 w A0 l0.length l0) (hc0 : l0.length ≤ c0) (h : interchangeref10_nests.f k l0 = some r) :
  Calls Tryz.prog 22 #[.slice A0 l0.length c0] w fun e w' => e = .returned (.int .i64 r) ∧ Below w.heap.size w w' := by
 have hu42 := Tryz.underlying42
 have HR0 := Aside0.mk hr0
 have HC0 := Aside0.mk hc0
 clear hr0 hc0
 have HB := Aside0.mk (Below.refl w.heap.size w)
 have H := h
 unfold interchangeref10_nests.f at H
 clear h
 have H' := Aside0.mk H
 clear H
 go_enter Tryz.func22, Tryz.ntmps22
 go_wp2
 try simp only [sq]
 go_loopg [11] k (fun kq v11 w' => ∃ (x11_1 : Int), v11 = .int .i64 x11_1 ∧ Aside0 (interchangeref10_nests.l0 kq l0 l0 (l0.length : Int) x11_1 = some r) ∧ Aside0 (kq ≤ k) ∧ Aside0 (Below w.heap.size w w'))
 case atStart => exact ⟨(0), ar, H', ⟨Nat.le_refl _⟩, ⟨(zb w)⟩⟩
 case round =>
  clear H'
  obtain ⟨x11_1, rfl, HA, HK1, HB⟩ := hrel
  cases gk with
  | zero => exact absurd HA.out (by simp [interchangeref10_nests.l0])
  | succ k1 =>
   have H := HA.out
   clear HA
   simp only [interchangeref10_nests.l0] at H
   by_cases c2 : x11_1 < (l0.length : Int)
   ·rw [if_pos c2] at H
    have c2b0 : decide (x11_1 < (l0.length : Int)) = true := decide_eq_true c2
    clear c2
    by_cases c3 : 0 ≤ x11_1
    ·rw [if_pos c3] at H
     have c3b0 : decide (0 ≤ x11_1) = true := decide_eq_true c3
     clear c3
     by_cases c4 : x11_1 < (l0.length : Int)
     ·rw [if_pos c4] at H
      have c4b0 : decide (x11_1 < (l0.length : Int)) = true := decide_eq_true c4
      clear c4
      by_cases c5 : ((rd_T42 l0 x11_1).f1).toList = ([] : List UInt8)
      ·rw [if_pos c5] at H
       have c5b0 : (((rd_T42 l0 x11_1).f1).toList == ([] : List UInt8)) = true := beq_iff_eq.mpr c5
       have c5b1 : (((rd_T42 l0 x11_1).f1).toList != ([] : List UInt8)) = false := bne_eq_false_iff_eq.mpr c5
       clear c5
       have H' := Aside0.mk H
       clear H
       have p279 : 0 ≤ (x11_1 : Int) := of_decide_eq_true (by assumption)
       have q279 : x11_1 < (l0.length : Int) := of_decide_eq_true (by assumption)
       obtain ⟨ad279, A279_4, c279_4, e279, hx279_0, hx279_1, hx279_2, hx279_3, hx279_4, hl279_4, hi279_4⟩ := at_T42 HR0.out x11_1 p279 q279
       cases e279
       replace hx279_0 := hz HB hx279_0
       replace hx279_1 := hz HB hx279_1
       replace hx279_2 := hz HB hx279_2
       replace hx279_3 := hz HB hx279_3
       replace hx279_4 := hz HB hx279_4
       have HR279_4 := Aside0.mk hi279_4
       have HC279_4 := Aside0.mk hl279_4
       clear hi279_4 hl279_4
       replace p279 := eq_true p279
       replace q279 := eq_true q279
       go_wp2_with (first | ((with_reducible refine gD 4 rfl ?_); (try (refine gate_guard (by rfl) ?_; dsimp only)); refine box_event ?hg (N := 4) ?hd (cs := #[.string (⟨#[]⟩ : ByteArray), .string (⟨#[]⟩ : ByteArray), .int .i64 0, .int .i64 0, .slice none 0 0]) (t := 42) ?hr ?_; (case hd => rfl); (case hg => rfl); (case hr => first | (go_simp; done) | (go_simp; rfl)); intro gb280 hg w6 hbox hb; have BK280 := Aside0.mk (hbox); have GW280 := Aside0.mk ((by rw [hg]; exact (below_size (zb w)) : w.heap.size ≤ gb280)); have GE280 := Aside0.mk ((by rw [hg]; exact (below_size (zb w)) : w.heap.size ≤ gb280)); replace HB := hs w hb; clear hb hg; obtain ⟨hcz7_0, hcz7_1, hcz7_2, hcz7_3, hcz7_4, hfz7_0, hfz7_1, hfz7_2, hfz7_3, hfz7_4⟩ := cz5 BK280))
       go_roundg k1
       case measure => have := HK1.out; omega
       case rel => exact ⟨(wrap64 (x11_1 + 1)), ar, H', ⟨by have := HK1.out; omega⟩, ⟨(zb w)⟩⟩
      ·rw [if_neg c5] at H
       have c5b0 : (((rd_T42 l0 x11_1).f1).toList == ([] : List UInt8)) = false := beq_eq_false_iff_ne.mpr c5
       have c5b1 : (((rd_T42 l0 x11_1).f1).toList != ([] : List UInt8)) = true := bne_iff_ne.mpr c5
       replace H := Option.bind_eq_some_iff.mp H
       obtain ⟨t281, A80, H⟩ := H
       try dsimp only at H
       have A8 := Aside0.mk A80
       clear A80
       by_cases c9 : t281 < 0
       ·rw [if_pos c9] at H
        have c9b0 : decide (t281 < 0) = true := decide_eq_true c9
        clear c9
        obtain rfl := Option.some.inj H
        have p279 : 0 ≤ (x11_1 : Int) := of_decide_eq_true (by assumption)
        have q279 : x11_1 < (l0.length : Int) := of_decide_eq_true (by assumption)
        obtain ⟨ad279, A279_4, c279_4, e279, hx279_0, hx279_1, hx279_2, hx279_3, hx279_4, hl279_4, hi279_4⟩ := at_T42 HR0.out x11_1 p279 q279
        cases e279
        replace hx279_0 := hz HB hx279_0
        replace hx279_1 := hz HB hx279_1
        replace hx279_2 := hz HB hx279_2
        replace hx279_3 := hz HB hx279_3
        replace hx279_4 := hz HB hx279_4
        have HR279_4 := Aside0.mk hi279_4
        have HC279_4 := Aside0.mk hl279_4
        clear hi279_4 hl279_4
        replace p279 := eq_true p279
        replace q279 := eq_true q279
        go_wp2_with (first | ((with_reducible refine gD 4 rfl ?_); (try (refine gate_guard (by rfl) ?_; dsimp only)); refine box_event ?hg (N := 4) ?hd (cs := #[.string (⟨#[]⟩ : ByteArray), .string (⟨#[]⟩ : ByteArray), .int .i64 0, .int .i64 0, .slice none 0 0]) (t := 42) ?hr ?_; (case hd => rfl); (case hg => rfl); (case hr => first | (go_simp; done) | (go_simp; rfl)); intro gb280 hg w10 hbox hb; have BK280 := Aside0.mk (hbox); have GW280 := Aside0.mk ((by rw [hg]; exact (below_size (zb w)) : w.heap.size ≤ gb280)); have GE280 := Aside0.mk ((by rw [hg]; exact (below_size (zb w)) : w.heap.size ≤ gb280)); replace HB := hs w hb; clear hb hg; obtain ⟨hcz11_0, hcz11_1, hcz11_2, hcz11_3, hcz11_4, hfz11_0, hfz11_1, hfz11_2, hfz11_3, hfz11_4⟩ := cz5 BK280) | (go_at_call 12; (with_reducible refine (interchangeref10_parcelOf.calls k1 _ _ l0 ((rd_T42 l0 x11_1).f1) t281 _ ?side1 HC0.out A8.out).mono ?_); (case side1 => exact Kd.C_below HR0.out (zb w)); rintro e w12 ⟨rfl, hb⟩; replace BK280 := Aside0.mk (blk_below (g := gb280) (o := .cells #[.string ((rd_T42 l0 x11_1).f0), .string ((rd_T42 l0 x11_1).f1), .int .i64 ((rd_T42 l0 x11_1).f2.f0), .int .i64 ((rd_T42 l0 x11_1).f2.f1), .slice A279_4 ((rd_T42 l0 x11_1).f3).length c279_4] 42 (0, 0)) (by (with_reducible repeat (first | refine blk_drewN ?_ _ | refine blk_drew ?_ | refine blk_alloc ?_ _)); refine blk_put (cs := #[.string ((rd_T42 l0 x11_1).f0), .string ((rd_T42 l0 x11_1).f1), .int .i64 ((rd_T42 l0 x11_1).f2.f0), .int .i64 ((rd_T42 l0 x11_1).f2.f1), .slice none 0 0]) ?_ 4 _ rfl; (with_reducible repeat (first | refine blk_drewN ?_ _ | refine blk_drew ?_ | refine blk_alloc ?_ _)); refine blk_put (cs := #[.string ((rd_T42 l0 x11_1).f0), .string ((rd_T42 l0 x11_1).f1), .int .i64 ((rd_T42 l0 x11_1).f2.f0), .int .i64 0, .slice none 0 0]) ?_ 3 _ rfl; (with_reducible repeat (first | refine blk_drewN ?_ _ | refine blk_drew ?_ | refine blk_alloc ?_ _)); refine blk_put (cs := #[.string ((rd_T42 l0 x11_1).f0), .string ((rd_T42 l0 x11_1).f1), .int .i64 0, .int .i64 0, .slice none 0 0]) ?_ 2 _ rfl; (with_reducible repeat (first | refine blk_drewN ?_ _ | refine blk_drew ?_ | refine blk_alloc ?_ _)); refine blk_put (cs := #[.string ((rd_T42 l0 x11_1).f0), .string (⟨#[]⟩ : ByteArray), .int .i64 0, .int .i64 0, .slice none 0 0]) ?_ 1 _ rfl; (with_reducible repeat (first | refine blk_drewN ?_ _ | refine blk_drew ?_ | refine blk_alloc ?_ _)); refine blk_put (cs := #[.string (⟨#[]⟩ : ByteArray), .string (⟨#[]⟩ : ByteArray), .int .i64 0, .int .i64 0, .slice none 0 0]) ?_ 0 _ rfl; exact zk BK280) hb); replace HB := hs w hb; (try clear hb)))
        go_ret
        exact ⟨by first | rfl | (simp [errW_none, errW_some] <;> rfl) | (simp [*, errW_none, errW_some] <;> rfl), (zb w)⟩
       ·rw [if_neg c9] at H
        have c9b0 : decide (t281 < 0) = false := decide_eq_false c9
        clear c9
        have H' := Aside0.mk H
        clear H
        have p279 : 0 ≤ (x11_1 : Int) := of_decide_eq_true (by assumption)
        have q279 : x11_1 < (l0.length : Int) := of_decide_eq_true (by assumption)
        obtain ⟨ad279, A279_4, c279_4, e279, hx279_0, hx279_1, hx279_2, hx279_3, hx279_4, hl279_4, hi279_4⟩ := at_T42 HR0.out x11_1 p279 q279
        cases e279
        replace hx279_0 := hz HB hx279_0
        replace hx279_1 := hz HB hx279_1
        replace hx279_2 := hz HB hx279_2
        replace hx279_3 := hz HB hx279_3
        replace hx279_4 := hz HB hx279_4
        have HR279_4 := Aside0.mk hi279_4
        have HC279_4 := Aside0.mk hl279_4
        clear hi279_4 hl279_4
        replace p279 := eq_true p279
        replace q279 := eq_true q279
        go_wp2_with (first | ((with_reducible refine gD 4 rfl ?_); (try (refine gate_guard (by rfl) ?_; dsimp only)); refine box_event ?hg (N := 4) ?hd (cs := #[.string (⟨#[]⟩ : ByteArray), .string (⟨#[]⟩ : ByteArray), .int .i64 0, .int .i64 0, .slice none 0 0]) (t := 42) ?hr ?_; (case hd => rfl); (case hg => rfl); (case hr => first | (go_simp; done) | (go_simp; rfl)); intro gb280 hg w13 hbox hb; have BK280 := Aside0.mk (hbox); have GW280 := Aside0.mk ((by rw [hg]; exact (below_size (zb w)) : w.heap.size ≤ gb280)); have GE280 := Aside0.mk ((by rw [hg]; exact (below_size (zb w)) : w.heap.size ≤ gb280)); replace HB := hs w hb; clear hb hg; obtain ⟨hcz14_0, hcz14_1, hcz14_2, hcz14_3, hcz14_4, hfz14_0, hfz14_1, hfz14_2, hfz14_3, hfz14_4⟩ := cz5 BK280) | (go_at_call 12; (with_reducible refine (interchangeref10_parcelOf.calls k1 _ _ l0 ((rd_T42 l0 x11_1).f1) t281 _ ?side1 HC0.out A8.out).mono ?_); (case side1 => exact Kd.C_below HR0.out (zb w)); rintro e w15 ⟨rfl, hb⟩; replace BK280 := Aside0.mk (blk_below (g := gb280) (o := .cells #[.string ((rd_T42 l0 x11_1).f0), .string ((rd_T42 l0 x11_1).f1), .int .i64 ((rd_T42 l0 x11_1).f2.f0), .int .i64 ((rd_T42 l0 x11_1).f2.f1), .slice A279_4 ((rd_T42 l0 x11_1).f3).length c279_4] 42 (0, 0)) (by (with_reducible repeat (first | refine blk_drewN ?_ _ | refine blk_drew ?_ | refine blk_alloc ?_ _)); refine blk_put (cs := #[.string ((rd_T42 l0 x11_1).f0), .string ((rd_T42 l0 x11_1).f1), .int .i64 ((rd_T42 l0 x11_1).f2.f0), .int .i64 ((rd_T42 l0 x11_1).f2.f1), .slice none 0 0]) ?_ 4 _ rfl; (with_reducible repeat (first | refine blk_drewN ?_ _ | refine blk_drew ?_ | refine blk_alloc ?_ _)); refine blk_put (cs := #[.string ((rd_T42 l0 x11_1).f0), .string ((rd_T42 l0 x11_1).f1), .int .i64 ((rd_T42 l0 x11_1).f2.f0), .int .i64 0, .slice none 0 0]) ?_ 3 _ rfl; (with_reducible repeat (first | refine blk_drewN ?_ _ | refine blk_drew ?_ | refine blk_alloc ?_ _)); refine blk_put (cs := #[.string ((rd_T42 l0 x11_1).f0), .string ((rd_T42 l0 x11_1).f1), .int .i64 0, .int .i64 0, .slice none 0 0]) ?_ 2 _ rfl; (with_reducible repeat (first | refine blk_drewN ?_ _ | refine blk_drew ?_ | refine blk_alloc ?_ _)); refine blk_put (cs := #[.string ((rd_T42 l0 x11_1).f0), .string (⟨#[]⟩ : ByteArray), .int .i64 0, .int .i64 0, .slice none 0 0]) ?_ 1 _ rfl; (with_reducible repeat (first | refine blk_drewN ?_ _ | refine blk_drew ?_ | refine blk_alloc ?_ _)); refine blk_put (cs := #[.string (⟨#[]⟩ : ByteArray), .string (⟨#[]⟩ : ByteArray), .int .i64 0, .int .i64 0, .slice none 0 0]) ?_ 0 _ rfl; exact zk BK280) hb); replace HB := hs w hb; (try clear hb)))
        go_roundg k1
        case measure => have := HK1.out; omega
        case rel => exact ⟨(wrap64 (x11_1 + 1)), ar, H', ⟨by have := HK1.out; omega⟩, ⟨(zb w)⟩⟩
     ·rw [if_neg c4] at H
      exact absurd H (by simp)
    ·rw [if_neg c3] at H
     exact absurd H (by simp)
   ·rw [if_neg c2] at H
    have c2b0 : decide (x11_1 < (l0.length : Int)) = false := decide_eq_false c2
    clear c2
    have H' := Aside0.mk H
    clear H
    go_wp2
    try simp only [sq]
    go_loopg [28] k1 (fun kq v28 w' => ∃ (x28_2 : Int), v28 = .int .i64 x28_2 ∧ Aside0 (interchangeref10_nests.l1 kq l0 (l0.length : Int) x28_2 = some r) ∧ Aside0 (kq ≤ k1) ∧ Aside0 (Below w.heap.size w w'))
    case atStart => exact ⟨(0), ar, H', ⟨Nat.le_refl _⟩, ⟨(zb w)⟩⟩
    case round =>
     clear H'
     try clear c2
     try clear c2b0
     try clear p2
     try clear q2
     try clear hx2
     try clear c3
     try clear c3b0
     try clear c4
     try clear c4b0
     try clear c5
     try clear c5b0
     try clear c5b1
     try clear p6
     try clear c9
     try clear c9b0
     try clear hcz11_0 hcz11_1 hcz11_2 hcz11_3 hcz11_4
     try clear hcz14_0 hcz14_1 hcz14_2 hcz14_3 hcz14_4
     try clear hcz7_0 hcz7_1 hcz7_2 hcz7_3 hcz7_4
     try clear hfz11_0 hfz11_1 hfz11_2 hfz11_3 hfz11_4
     try clear hfz14_0 hfz14_1 hfz14_2 hfz14_3 hfz14_4
     try clear hfz7_0 hfz7_1 hfz7_2 hfz7_3 hfz7_4
     try clear hx279_0
     try clear hx279_1
     try clear hx279_2
     try clear hx279_3
     try clear hx279_4
     try clear p279
     try clear q279
     obtain ⟨x28_2, rfl, HA, HK2, HB⟩ := hrel
     cases gk with
     | zero => exact absurd HA.out (by simp [interchangeref10_nests.l1])
     | succ k2 =>
      have H := HA.out
      clear HA
      simp only [interchangeref10_nests.l1] at H
      by_cases c16 : x28_2 < (l0.length : Int)
      ·rw [if_pos c16] at H
       have c16b0 : decide (x28_2 < (l0.length : Int)) = true := decide_eq_true c16
       clear c16
       replace H := Option.bind_eq_some_iff.mp H
       obtain ⟨t282, A170, H⟩ := H
       try dsimp only at H
       have A17 := Aside0.mk A170
       clear A170
       by_cases c18 : t282 = true
       ·subst c18
        have H1 : (some 17) = some r := by rw [if_pos rfl] at H; exact H
        clear H
        have H := H1
        clear H1
        obtain rfl := Option.some.inj H
        go_wp2_with (first | ((with_reducible refine gC 42 rfl ?_); refine gl_ 33 Tryz.func42 #[.slice A0 l0.length c0, .int .i64 x28_2] ?_; (with_reducible refine (interchangeref10_loops.calls k2 _ _ l0 x28_2 true _ (zc HR0) HC0.out A17.out).mono ?_); rintro e w19 ⟨rfl, hb⟩; refine ⟨_, rfl, ?_⟩; replace HB := hs w hb; (try clear hb)))
        go_ret
        exact ⟨by first | rfl | (simp [errW_none, errW_some] <;> rfl) | (simp [*, errW_none, errW_some] <;> rfl), (zb w)⟩
       ·replace c18 := Bool.eq_false_iff.mpr c18
        subst c18
        have H1 : (interchangeref10_nests.l1 k2 l0 (l0.length : Int) (wrap64 (x28_2 + 1))) = some r := by rw [if_neg (show ¬ (false = true) by decide)] at H; exact H
        clear H
        have H := H1
        clear H1
        have H' := Aside0.mk H
        clear H
        go_wp2_with (first | ((with_reducible refine gC 42 rfl ?_); refine gl_ 33 Tryz.func42 #[.slice A0 l0.length c0, .int .i64 x28_2] ?_; (with_reducible refine (interchangeref10_loops.calls k2 _ _ l0 x28_2 false _ (zc HR0) HC0.out A17.out).mono ?_); rintro e w20 ⟨rfl, hb⟩; refine ⟨_, rfl, ?_⟩; replace HB := hs w hb; (try clear hb)))
        go_roundg k2
        case measure => have := HK1.out; have := HK2.out; omega
        case rel => exact ⟨(wrap64 (x28_2 + 1)), ar, H', ⟨by have := HK1.out; have := HK2.out; omega⟩, ⟨(zb w)⟩⟩
      ·rw [if_neg c16] at H
       have c16b0 : decide (x28_2 < (l0.length : Int)) = false := decide_eq_false c16
       clear c16
       have H' := Aside0.mk H
       clear H
       go_wp2
       try simp only [sq]
       go_loopg [37] k2 (fun kq v37 w' => ∃ (x37_3 : Int), v37 = .int .i64 x37_3 ∧ Aside0 (interchangeref10_nests.l2 kq l0 (l0.length : Int) x37_3 = some r) ∧ Aside0 (kq ≤ k2) ∧ Aside0 (Below w.heap.size w w'))
       case atStart => exact ⟨(0), ar, H', ⟨Nat.le_refl _⟩, ⟨(zb w)⟩⟩
       case round =>
        clear H'
        try clear c1
        try clear c2
        try clear c2b0
        try clear p2
        try clear q2
        try clear hx2
        try clear c3
        try clear c3b0
        try clear c4
        try clear c4b0
        try clear c5
        try clear c5b0
        try clear c5b1
        try clear p6
        try clear c9
        try clear c9b0
        try clear c16
        try clear c16b0
        try clear c18
        try clear hcz11_0 hcz11_1 hcz11_2 hcz11_3 hcz11_4
        try clear hcz14_0 hcz14_1 hcz14_2 hcz14_3 hcz14_4
        try clear hcz7_0 hcz7_1 hcz7_2 hcz7_3 hcz7_4
        try clear hfz11_0 hfz11_1 hfz11_2 hfz11_3 hfz11_4
        try clear hfz14_0 hfz14_1 hfz14_2 hfz14_3 hfz14_4
        try clear hfz7_0 hfz7_1 hfz7_2 hfz7_3 hfz7_4
        try clear hx279_0
        try clear hx279_1
        try clear hx279_2
        try clear hx279_3
        try clear hx279_4
        try clear p2
        try clear p279
        try clear p6
        try clear q2
        try clear q279
        obtain ⟨x37_3, rfl, HA, HK3, HB⟩ := hrel
        cases gk with
        | zero => exact absurd HA.out (by simp [interchangeref10_nests.l2])
        | succ k3 =>
         have H := HA.out
         clear HA
         simp only [interchangeref10_nests.l2] at H
         by_cases c21 : x37_3 < (l0.length : Int)
         ·rw [if_pos c21] at H
          have c21b0 : decide (x37_3 < (l0.length : Int)) = true := decide_eq_true c21
          clear c21
          replace H := Option.bind_eq_some_iff.mp H
          obtain ⟨⟨t283, t284⟩, A220, H⟩ := H
          try dsimp only at H
          have A22 := Aside0.mk A220
          clear A220
          by_cases c23 : t284 = true
          ·subst c23
           have H1 : (if (wrap64 ((t283.length : Int) - 1)) > 5 then (some 2) else (interchangeref10_nests.l2 k3 l0 (l0.length : Int) (wrap64 (x37_3 + 1)))) = some r := by rw [if_pos rfl] at H; exact H
           clear H
           have H := H1
           clear H1
           by_cases c24 : (wrap64 ((t283.length : Int) - 1)) > 5
           ·rw [if_pos c24] at H
            have c24b0 : decide (5 < (wrap64 ((t283.length : Int) - 1))) = true := decide_eq_true c24
            clear c24
            obtain rfl := Option.some.inj H
            go_wp2_with (first | ((with_reducible refine gC 27 rfl ?_); refine gl_ 43 Tryz.func27 #[.slice A0 l0.length c0, .int .i64 x37_3] ?_; (with_reducible refine (interchangeref10_up.calls k3 _ _ l0 x37_3 t283 true _ (zc HR0) HC0.out A22.out).mono ?_); rintro e w25 ⟨v285, rfl, ho0, hb⟩; refine ⟨_, rfl, ?_⟩; have HO286 := Aside0.mk (Kd.R_lower ho0 (below_size (zb w))); replace HB := hs w hb; (try clear hb); (try clear ho0); obtain ⟨Ao26, co26, eo26⟩ := Kd.R_slice HO286.out; subst eo26))
            go_ret
            exact ⟨by first | rfl | (simp [errW_none, errW_some] <;> rfl) | (simp [*, errW_none, errW_some] <;> rfl), (zb w)⟩
           ·rw [if_neg c24] at H
            have c24b0 : decide (5 < (wrap64 ((t283.length : Int) - 1))) = false := decide_eq_false c24
            clear c24
            have H' := Aside0.mk H
            clear H
            go_wp2_with (first | ((with_reducible refine gC 27 rfl ?_); refine gl_ 43 Tryz.func27 #[.slice A0 l0.length c0, .int .i64 x37_3] ?_; (with_reducible refine (interchangeref10_up.calls k3 _ _ l0 x37_3 t283 true _ (zc HR0) HC0.out A22.out).mono ?_); rintro e w27 ⟨v285, rfl, ho0, hb⟩; refine ⟨_, rfl, ?_⟩; have HO286 := Aside0.mk (Kd.R_lower ho0 (below_size (zb w))); replace HB := hs w hb; (try clear hb); (try clear ho0); obtain ⟨Ao28, co28, eo28⟩ := Kd.R_slice HO286.out; subst eo28))
            go_roundg k3
            case measure => have := HK1.out; have := HK2.out; have := HK3.out; omega
            case rel => exact ⟨(wrap64 (x37_3 + 1)), ar, H', ⟨by have := HK1.out; have := HK2.out; have := HK3.out; omega⟩, ⟨(zb w)⟩⟩
          ·replace c23 := Bool.eq_false_iff.mpr c23
           subst c23
           have H1 : (some 2) = some r := by rw [if_neg (show ¬ (false = true) by decide)] at H; exact H
           clear H
           have H := H1
           clear H1
           obtain rfl := Option.some.inj H
           go_wp2_with (first | ((with_reducible refine gC 27 rfl ?_); refine gl_ 43 Tryz.func27 #[.slice A0 l0.length c0, .int .i64 x37_3] ?_; (with_reducible refine (interchangeref10_up.calls k3 _ _ l0 x37_3 t283 false _ (zc HR0) HC0.out A22.out).mono ?_); rintro e w29 ⟨v285, rfl, ho0, hb⟩; refine ⟨_, rfl, ?_⟩; have HO286 := Aside0.mk (Kd.R_lower ho0 (below_size (zb w))); replace HB := hs w hb; (try clear hb); (try clear ho0)))
           go_ret
           exact ⟨by first | rfl | (simp [errW_none, errW_some] <;> rfl) | (simp [*, errW_none, errW_some] <;> rfl), (zb w)⟩
         ·rw [if_neg c21] at H
          have c21b0 : decide (x37_3 < (l0.length : Int)) = false := decide_eq_false c21
          clear c21
          obtain rfl := Option.some.inj H
          go_wp2
          go_ret
          exact ⟨by first | rfl | (simp [errW_none, errW_some] <;> rfl) | (simp [*, errW_none, errW_some] <;> rfl), (zb w)⟩

end Go.Proofs.YthgefhnolmloiaaGreatDoor.P3
