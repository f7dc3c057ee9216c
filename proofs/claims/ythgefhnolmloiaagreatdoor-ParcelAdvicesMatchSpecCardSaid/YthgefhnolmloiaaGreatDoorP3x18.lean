-- Made by a program of this session out of the translation (wip/pp.py): functions, contracts.
import Derived.Test.YthgefhnolmloiaaGreatDoorP3x0
import Derived.Test.YthgefhnolmloiaaGreatDoorP3x16
import Derived.Test.YthgefhnolmloiaaGreatDoorP3x17
namespace Go.Proofs.YthgefhnolmloiaaGreatDoor.P3
open Go.RowKit Go.Proofs.YthgefhnolmloiaaGreatDoorW.PrintWords Go.Proofs.YthgefhnolmloiaaGreatDoorW.PrintLast Go.Proofs.YthgefhnolmloiaaGreatDoorW.PrintMore
attribute [local go_sem] max2_int min2_int max_two min_two max_three min_three max_four min_four   -- for this text's walks alone
set_option linter.unusedVariables false
set_option linter.unusedSimpArgs false

/-! ### parcel_nestFault: function 26 -/
mutual
def parcel_nestFault.l0 : Nat → List (S42) → Int → Int → ByteArray → ByteArray → Int → List (S42) → Option (Int)
 | 0, _, _, _, _, _, _, _ => none
 | k + 1, x14, x15, x16, x404000, x404001, x404002, x404003 => if x16 < x15 then (if 0 ≤ x16 then (if x16 < (x14.length : Int) then ((parcel_parcelAt.f k x404000 x404001 x404002 x404003 ((rd_T42 x14 x16).f1)).bind fun bt406 => (if ((rd_T42 x14 x16).f1).toList = ([] : List UInt8) then (parcel_nestFault.l0 k x14 x15 (wrap64 (x16 + 1)) x404000 x404001 x404002 x404003) else (if bt406.2 = true then (parcel_nestFault.l0 k x14 x15 (wrap64 (x16 + 1)) x404000 x404001 x404002 x404003) else (some 9)))) else (none)) else (none)) else (parcel_nestFault.l1 k (x404003.length : Int) 0 x404000 x404001 x404002 x404003)
def parcel_nestFault.l1 : Nat → Int → Int → ByteArray → ByteArray → Int → List (S42) → Option (Int)
 | 0, _, _, _, _, _, _ => none
 | k + 1, x37, x38, x404000, x404001, x404002, x404003 => if x38 < x37 then ((parcel_around.f k x404000 x404001 x404002 x404003 x38).bind fun bt408 => (if bt408.2 = true then (parcel_nestFault.l1 k x37 (wrap64 (x38 + 1)) x404000 x404001 x404002 x404003) else (some 17))) else (parcel_nestFault.l2 k (x404003.length : Int) 0 x404000 x404001 x404002 x404003)
def parcel_nestFault.l2 : Nat → Int → Int → ByteArray → ByteArray → Int → List (S42) → Option (Int)
 | 0, _, _, _, _, _, _ => none
 | k + 1, x52, x53, x404000, x404001, x404002, x404003 => if x53 < x52 then ((parcel_around.f k x404000 x404001 x404002 x404003 x53).bind fun bt412 => (if (bt412.1.length : Int) > 5 then (some 2) else (parcel_nestFault.l2 k x52 (wrap64 (x53 + 1)) x404000 x404001 x404002 x404003))) else (some 0)
end
def parcel_nestFault.f (k : Nat) (a0_0 : ByteArray) (a0_1 : ByteArray) (a0_2 : Int) (l0_3 : List (S42)) : Option (Int) := parcel_nestFault.l0 k l0_3 (l0_3.length : Int) 0 a0_0 a0_1 a0_2 l0_3
theorem parcel_nestFault.mono_l : ∀ k, (∀ y0 y1 y2 y3 y4 y5 y6, LeO (parcel_nestFault.l0 k y0 y1 y2 y3 y4 y5 y6) (parcel_nestFault.l0 (k + 1) y0 y1 y2 y3 y4 y5 y6)) ∧ (∀ y0 y1 y2 y3 y4 y5, LeO (parcel_nestFault.l1 k y0 y1 y2 y3 y4 y5) (parcel_nestFault.l1 (k + 1) y0 y1 y2 y3 y4 y5)) ∧ (∀ y0 y1 y2 y3 y4 y5, LeO (parcel_nestFault.l2 k y0 y1 y2 y3 y4 y5) (parcel_nestFault.l2 (k + 1) y0 y1 y2 y3 y4 y5))
 | 0 => ⟨fun _ _ _ _ _ _ _ r h => by simp [parcel_nestFault.l0] at h, fun _ _ _ _ _ _ r h => by simp [parcel_nestFault.l1] at h, fun _ _ _ _ _ _ r h => by simp [parcel_nestFault.l2] at h⟩
 | k + 1 => by
  obtain ⟨ih0, ih1, ih2⟩ := parcel_nestFault.mono_l k
  refine ⟨?_, ?_, ?_⟩
  ·intro y0 y1 y2 y3 y4 y5 y6
   unfold parcel_nestFault.l0
   repeat' first | with_reducible first | exact ih0 _ _ _ _ _ _ _ | exact ih1 _ _ _ _ _ _ | exact ih2 _ _ _ _ _ _ | exact parcel_around.mono _ _ _ _ _ _ | exact parcel_parcelAt.mono _ _ _ _ _ _ | exact lr _ | exact ln _ | refine li ?_ ?_ | refine lb ?_ fun _ => ?_ | exact ih0 _ _ _ _ _ _ _ | exact ih1 _ _ _ _ _ _ | exact ih2 _ _ _ _ _ _ | exact parcel_around.mono _ _ _ _ _ _ | exact parcel_parcelAt.mono _ _ _ _ _ _ | exact ln _ | refine li ?_ ?_ | refine lb ?_ fun _ => ?_
  ·intro y0 y1 y2 y3 y4 y5
   unfold parcel_nestFault.l1
   repeat' first | with_reducible first | exact ih0 _ _ _ _ _ _ _ | exact ih1 _ _ _ _ _ _ | exact ih2 _ _ _ _ _ _ | exact parcel_around.mono _ _ _ _ _ _ | exact parcel_parcelAt.mono _ _ _ _ _ _ | exact lr _ | exact ln _ | refine li ?_ ?_ | refine lb ?_ fun _ => ?_ | exact ih0 _ _ _ _ _ _ _ | exact ih1 _ _ _ _ _ _ | exact ih2 _ _ _ _ _ _ | exact parcel_around.mono _ _ _ _ _ _ | exact parcel_parcelAt.mono _ _ _ _ _ _ | exact ln _ | refine li ?_ ?_ | refine lb ?_ fun _ => ?_
  ·intro y0 y1 y2 y3 y4 y5
   unfold parcel_nestFault.l2
   repeat' first | with_reducible first | exact ih0 _ _ _ _ _ _ _ | exact ih1 _ _ _ _ _ _ | exact ih2 _ _ _ _ _ _ | exact parcel_around.mono _ _ _ _ _ _ | exact parcel_parcelAt.mono _ _ _ _ _ _ | exact lr _ | exact ln _ | refine li ?_ ?_ | refine lb ?_ fun _ => ?_ | exact ih0 _ _ _ _ _ _ _ | exact ih1 _ _ _ _ _ _ | exact ih2 _ _ _ _ _ _ | exact parcel_around.mono _ _ _ _ _ _ | exact parcel_parcelAt.mono _ _ _ _ _ _ | exact ln _ | refine li ?_ ?_ | refine lb ?_ fun _ => ?_
theorem parcel_nestFault.mono : ∀ a0 a1 a2 a3 k, LeO (parcel_nestFault.f k a0 a1 a2 a3) (parcel_nestFault.f (k + 1) a0 a1 a2 a3) := by
 intro a0 a1 a2 a3 k
 obtain ⟨ih0, ih1, ih2⟩ := parcel_nestFault.mono_l k
 unfold parcel_nestFault.f
 repeat' first | with_reducible first | exact ih0 _ _ _ _ _ _ _ | exact ih1 _ _ _ _ _ _ | exact ih2 _ _ _ _ _ _ | exact parcel_around.mono _ _ _ _ _ _ | exact parcel_parcelAt.mono _ _ _ _ _ _ | exact lr _ | exact ln _ | refine li ?_ ?_ | refine lb ?_ fun _ => ?_ | exact ih0 _ _ _ _ _ _ _ | exact ih1 _ _ _ _ _ _ | exact ih2 _ _ _ _ _ _ | exact parcel_around.mono _ _ _ _ _ _ | exact parcel_parcelAt.mono _ _ _ _ _ _ | exact ln _ | refine li ?_ ?_ | refine lb ?_ fun _ => ?_
set_option maxHeartbeats 8000000 in
set_option maxRecDepth 100000 in
theorem parcel_nestFault.calls (k : Nat) (a0_0 : ByteArray) (a0_1 : ByteArray) (a0_2 : Int) (A0_3 : Option Addr) (c0_3 : Nat) (l0_3 : List (S42)) (r : Int) (w : World) (hr0_3 : Kd.C k42 w A0_3 l0_3.length l0_3) (hc0_3 : l0_3.length ≤ c0_3) (h : parcel_nestFault.f k a0_0 a0_1 a0_2 l0_3 = some r) :
  Calls Tryz.prog 26 #[.agg #[.string a0_0, .string a0_1, .int .i64 a0_2, .slice A0_3 l0_3.length c0_3]] w fun e w' => e = .returned (.int .i64 r) ∧ Below w.heap.size w w' := by
 have hu24 := Tryz.underlying24
 have hu42 := Tryz.underlying42
 have HR0_3 := Aside0.mk hr0_3
 have HC0_3 := Aside0.mk hc0_3
 clear hr0_3 hc0_3
 have HB := Aside0.mk (Below.refl w.heap.size w)
 have H := h
 unfold parcel_nestFault.f at H
 clear h
 have H' := Aside0.mk H
 clear H
 go_enter Tryz.func26, Tryz.ntmps26
 go_wp2_with (first | ((with_reducible refine gD 1 rfl ?_); refine bx w 1 #[.string a0_0, .string a0_1, .int .i64 a0_2, .slice A0_3 l0_3.length c0_3] 24 ?_; intro gb403 hg w2 hb BK403 GW403 GE403; clear HB; intro HB; clear hb hg; obtain ⟨hcz3_0, hcz3_1, hcz3_2, hcz3_3, hfz3_0, hfz3_1, hfz3_2, hfz3_3⟩ := cz4 BK403))
 try simp only [sq]
 go_loopg [16] k (fun kq v16 w' => ∃ (x16_1 : Int), v16 = .int .i64 x16_1 ∧ Aside0 (parcel_nestFault.l0 kq l0_3 (l0_3.length : Int) x16_1 a0_0 a0_1 a0_2 l0_3 = some r) ∧ Aside0 (kq ≤ k) ∧ Aside0 (w'.heap[gb403]? = some (.cells #[.string a0_0, .string a0_1, .int .i64 a0_2, (.slice A0_3 l0_3.length c0_3)] 24 (0, 0))) ∧ Aside0 (Below w.heap.size w w'))
 case atStart => exact ⟨(0), ar, H', ⟨Nat.le_refl _⟩, ⟨(zk BK403)⟩, ⟨(zb w)⟩⟩
 case round =>
  clear H'
  try clear c2
  try clear p2
  try clear hcz3_0 hcz3_1 hcz3_2 hcz3_3 hfz3_0 hfz3_1 hfz3_2 hfz3_3
  obtain ⟨x16_1, rfl, HA, HK1, BK403, HB⟩ := hrel
  cases gk with
  | zero => exact absurd HA.out (by simp [parcel_nestFault.l0])
  | succ k1 =>
   have H := HA.out
   clear HA
   simp only [parcel_nestFault.l0] at H
   by_cases c4 : x16_1 < (l0_3.length : Int)
   ·rw [if_pos c4] at H
    have c4b0 : decide (x16_1 < (l0_3.length : Int)) = true := decide_eq_true c4
    clear c4
    by_cases c5 : 0 ≤ x16_1
    ·rw [if_pos c5] at H
     have c5b0 : decide (0 ≤ x16_1) = true := decide_eq_true c5
     clear c5
     by_cases c6 : x16_1 < (l0_3.length : Int)
     ·rw [if_pos c6] at H
      have c6b0 : decide (x16_1 < (l0_3.length : Int)) = true := decide_eq_true c6
      clear c6
      replace H := Option.bind_eq_some_iff.mp H
      obtain ⟨⟨t406, t407⟩, A70, H⟩ := H
      try dsimp only at H
      have A7 := Aside0.mk A70
      clear A70
      by_cases c8 : ((rd_T42 l0_3 x16_1).f1).toList = ([] : List UInt8)
      ·rw [if_pos c8] at H
       have c8b0 : (((rd_T42 l0_3 x16_1).f1).toList == ([] : List UInt8)) = true := beq_iff_eq.mpr c8
       have c8b1 : (((rd_T42 l0_3 x16_1).f1).toList != ([] : List UInt8)) = false := bne_eq_false_iff_eq.mpr c8
       clear c8
       have H' := Aside0.mk H
       clear H
       have p404 : 0 ≤ (x16_1 : Int) := of_decide_eq_true (by assumption)
       have q404 : x16_1 < (l0_3.length : Int) := of_decide_eq_true (by assumption)
       obtain ⟨ad404, A404_4, c404_4, e404, hx404_0, hx404_1, hx404_2, hx404_3, hx404_4, hl404_4, hi404_4⟩ := at_T42 HR0_3.out x16_1 p404 q404
       cases e404
       replace hx404_0 := hz HB hx404_0
       replace hx404_1 := hz HB hx404_1
       replace hx404_2 := hz HB hx404_2
       replace hx404_3 := hz HB hx404_3
       replace hx404_4 := hz HB hx404_4
       have HR404_4 := Aside0.mk hi404_4
       have HC404_4 := Aside0.mk hl404_4
       clear hi404_4 hl404_4
       replace p404 := eq_true p404
       replace q404 := eq_true q404
       go_wp2_with (first | ((with_reducible refine gD 4 rfl ?_); refine bx w 4 #[.string (⟨#[]⟩ : ByteArray), .string (⟨#[]⟩ : ByteArray), .int .i64 0, .int .i64 0, .slice none 0 0] 42 ?_; intro gb405 hg w9 hb BK405 GW405 GE405; clear HB; intro HB; have NB403_405 := nbl BK403 hg; have NB405_403 := nbr BK403 hg; replace BK403 := bb BK403 hb; clear hb hg; have hnb10 := NB405_403.out; have hnc10 := NB403_405.out; obtain ⟨hcz11_0, hcz11_1, hcz11_2, hcz11_3, hcz11_4, hfz11_0, hfz11_1, hfz11_2, hfz11_3, hfz11_4⟩ := cz5 BK405; obtain ⟨hcz12_0, hcz12_1, hcz12_2, hcz12_3, hfz12_0, hfz12_1, hfz12_2, hfz12_3⟩ := cz4 BK403) | ((with_reducible refine gC 29 rfl ?_); refine gl_ 24 Tryz.func29 #[.agg #[.string a0_0, .string a0_1, .int .i64 a0_2, .slice (some ad404) l0_3.length c0_3], .string ((rd_T42 l0_3 x16_1).f1)] ?_; (with_reducible refine (parcel_parcelAt.calls k1 a0_0 a0_1 a0_2 _ _ l0_3 ((rd_T42 l0_3 x16_1).f1) t406 t407 _ ?side1 HC0_3.out A7.out).mono ?_); (case side1 => exact Kd.C_below HR0_3.out (zb w)); rintro e w13 ⟨rfl, hb⟩; refine ⟨_, rfl, ?_⟩; replace BK403 := Aside0.mk (blk_below (g := gb403) (o := .cells #[.string a0_0, .string a0_1, .int .i64 a0_2, .slice (some ad404) l0_3.length c0_3] 24 (0, 0)) (by (with_reducible repeat (first | refine blk_drewN ?_ _ | refine blk_drew ?_ | refine blk_alloc ?_ _)); refine blk_far ?_ NB403_405.out _; (with_reducible repeat (first | refine blk_drewN ?_ _ | refine blk_drew ?_ | refine blk_alloc ?_ _)); refine blk_far ?_ NB403_405.out _; (with_reducible repeat (first | refine blk_drewN ?_ _ | refine blk_drew ?_ | refine blk_alloc ?_ _)); refine blk_far ?_ NB403_405.out _; (with_reducible repeat (first | refine blk_drewN ?_ _ | refine blk_drew ?_ | refine blk_alloc ?_ _)); refine blk_far ?_ NB403_405.out _; (with_reducible repeat (first | refine blk_drewN ?_ _ | refine blk_drew ?_ | refine blk_alloc ?_ _)); refine blk_far ?_ NB403_405.out _; exact zk BK403) hb); replace BK405 := Aside0.mk (blk_below (g := gb405) (o := .cells #[.string ((rd_T42 l0_3 x16_1).f0), .string ((rd_T42 l0_3 x16_1).f1), .int .i64 ((rd_T42 l0_3 x16_1).f2.f0), .int .i64 ((rd_T42 l0_3 x16_1).f2.f1), .slice A404_4 ((rd_T42 l0_3 x16_1).f3).length c404_4] 42 (0, 0)) (by (with_reducible repeat (first | refine blk_drewN ?_ _ | refine blk_drew ?_ | refine blk_alloc ?_ _)); refine blk_put (cs := #[.string ((rd_T42 l0_3 x16_1).f0), .string ((rd_T42 l0_3 x16_1).f1), .int .i64 ((rd_T42 l0_3 x16_1).f2.f0), .int .i64 ((rd_T42 l0_3 x16_1).f2.f1), .slice none 0 0]) ?_ 4 _ rfl; (with_reducible repeat (first | refine blk_drewN ?_ _ | refine blk_drew ?_ | refine blk_alloc ?_ _)); refine blk_put (cs := #[.string ((rd_T42 l0_3 x16_1).f0), .string ((rd_T42 l0_3 x16_1).f1), .int .i64 ((rd_T42 l0_3 x16_1).f2.f0), .int .i64 0, .slice none 0 0]) ?_ 3 _ rfl; (with_reducible repeat (first | refine blk_drewN ?_ _ | refine blk_drew ?_ | refine blk_alloc ?_ _)); refine blk_put (cs := #[.string ((rd_T42 l0_3 x16_1).f0), .string ((rd_T42 l0_3 x16_1).f1), .int .i64 0, .int .i64 0, .slice none 0 0]) ?_ 2 _ rfl; (with_reducible repeat (first | refine blk_drewN ?_ _ | refine blk_drew ?_ | refine blk_alloc ?_ _)); refine blk_put (cs := #[.string ((rd_T42 l0_3 x16_1).f0), .string (⟨#[]⟩ : ByteArray), .int .i64 0, .int .i64 0, .slice none 0 0]) ?_ 1 _ rfl; (with_reducible repeat (first | refine blk_drewN ?_ _ | refine blk_drew ?_ | refine blk_alloc ?_ _)); refine blk_put (cs := #[.string (⟨#[]⟩ : ByteArray), .string (⟨#[]⟩ : ByteArray), .int .i64 0, .int .i64 0, .slice none 0 0]) ?_ 0 _ rfl; exact zk BK405) hb); replace HB := hs w hb; (try clear hb); obtain ⟨hcz14_0, hcz14_1, hcz14_2, hcz14_3, hcz14_4, hfz14_0, hfz14_1, hfz14_2, hfz14_3, hfz14_4⟩ := cz5 BK405))
       go_roundg k1
       case measure => have := HK1.out; omega
       case rel => exact ⟨(wrap64 (x16_1 + 1)), ar, H', ⟨by have := HK1.out; omega⟩, ⟨(zk BK403)⟩, ⟨(zb w)⟩⟩
      ·rw [if_neg c8] at H
       have c8b0 : (((rd_T42 l0_3 x16_1).f1).toList == ([] : List UInt8)) = false := beq_eq_false_iff_ne.mpr c8
       have c8b1 : (((rd_T42 l0_3 x16_1).f1).toList != ([] : List UInt8)) = true := bne_iff_ne.mpr c8
       by_cases c15 : t407 = true
       ·subst c15
        have H1 : (parcel_nestFault.l0 k1 l0_3 (l0_3.length : Int) (wrap64 (x16_1 + 1)) a0_0 a0_1 a0_2 l0_3) = some r := by rw [if_pos rfl] at H; exact H
        clear H
        have H := H1
        clear H1
        have H' := Aside0.mk H
        clear H
        have p404 : 0 ≤ (x16_1 : Int) := of_decide_eq_true (by assumption)
        have q404 : x16_1 < (l0_3.length : Int) := of_decide_eq_true (by assumption)
        obtain ⟨ad404, A404_4, c404_4, e404, hx404_0, hx404_1, hx404_2, hx404_3, hx404_4, hl404_4, hi404_4⟩ := at_T42 HR0_3.out x16_1 p404 q404
        cases e404
        replace hx404_0 := hz HB hx404_0
        replace hx404_1 := hz HB hx404_1
        replace hx404_2 := hz HB hx404_2
        replace hx404_3 := hz HB hx404_3
        replace hx404_4 := hz HB hx404_4
        have HR404_4 := Aside0.mk hi404_4
        have HC404_4 := Aside0.mk hl404_4
        clear hi404_4 hl404_4
        replace p404 := eq_true p404
        replace q404 := eq_true q404
        go_wp2_with (first | ((with_reducible refine gD 4 rfl ?_); refine bx w 4 #[.string (⟨#[]⟩ : ByteArray), .string (⟨#[]⟩ : ByteArray), .int .i64 0, .int .i64 0, .slice none 0 0] 42 ?_; intro gb405 hg w16 hb BK405 GW405 GE405; clear HB; intro HB; have NB403_405 := nbl BK403 hg; have NB405_403 := nbr BK403 hg; replace BK403 := bb BK403 hb; clear hb hg; have hnb17 := NB405_403.out; have hnc17 := NB403_405.out; obtain ⟨hcz18_0, hcz18_1, hcz18_2, hcz18_3, hcz18_4, hfz18_0, hfz18_1, hfz18_2, hfz18_3, hfz18_4⟩ := cz5 BK405; obtain ⟨hcz19_0, hcz19_1, hcz19_2, hcz19_3, hfz19_0, hfz19_1, hfz19_2, hfz19_3⟩ := cz4 BK403) | ((with_reducible refine gC 29 rfl ?_); refine gl_ 24 Tryz.func29 #[.agg #[.string a0_0, .string a0_1, .int .i64 a0_2, .slice (some ad404) l0_3.length c0_3], .string ((rd_T42 l0_3 x16_1).f1)] ?_; (with_reducible refine (parcel_parcelAt.calls k1 a0_0 a0_1 a0_2 _ _ l0_3 ((rd_T42 l0_3 x16_1).f1) t406 true _ ?side1 HC0_3.out A7.out).mono ?_); (case side1 => exact Kd.C_below HR0_3.out (zb w)); rintro e w20 ⟨rfl, hb⟩; refine ⟨_, rfl, ?_⟩; replace BK403 := Aside0.mk (blk_below (g := gb403) (o := .cells #[.string a0_0, .string a0_1, .int .i64 a0_2, .slice (some ad404) l0_3.length c0_3] 24 (0, 0)) (by (with_reducible repeat (first | refine blk_drewN ?_ _ | refine blk_drew ?_ | refine blk_alloc ?_ _)); refine blk_far ?_ NB403_405.out _; (with_reducible repeat (first | refine blk_drewN ?_ _ | refine blk_drew ?_ | refine blk_alloc ?_ _)); refine blk_far ?_ NB403_405.out _; (with_reducible repeat (first | refine blk_drewN ?_ _ | refine blk_drew ?_ | refine blk_alloc ?_ _)); refine blk_far ?_ NB403_405.out _; (with_reducible repeat (first | refine blk_drewN ?_ _ | refine blk_drew ?_ | refine blk_alloc ?_ _)); refine blk_far ?_ NB403_405.out _; (with_reducible repeat (first | refine blk_drewN ?_ _ | refine blk_drew ?_ | refine blk_alloc ?_ _)); refine blk_far ?_ NB403_405.out _; exact zk BK403) hb); replace BK405 := Aside0.mk (blk_below (g := gb405) (o := .cells #[.string ((rd_T42 l0_3 x16_1).f0), .string ((rd_T42 l0_3 x16_1).f1), .int .i64 ((rd_T42 l0_3 x16_1).f2.f0), .int .i64 ((rd_T42 l0_3 x16_1).f2.f1), .slice A404_4 ((rd_T42 l0_3 x16_1).f3).length c404_4] 42 (0, 0)) (by (with_reducible repeat (first | refine blk_drewN ?_ _ | refine blk_drew ?_ | refine blk_alloc ?_ _)); refine blk_put (cs := #[.string ((rd_T42 l0_3 x16_1).f0), .string ((rd_T42 l0_3 x16_1).f1), .int .i64 ((rd_T42 l0_3 x16_1).f2.f0), .int .i64 ((rd_T42 l0_3 x16_1).f2.f1), .slice none 0 0]) ?_ 4 _ rfl; (with_reducible repeat (first | refine blk_drewN ?_ _ | refine blk_drew ?_ | refine blk_alloc ?_ _)); refine blk_put (cs := #[.string ((rd_T42 l0_3 x16_1).f0), .string ((rd_T42 l0_3 x16_1).f1), .int .i64 ((rd_T42 l0_3 x16_1).f2.f0), .int .i64 0, .slice none 0 0]) ?_ 3 _ rfl; (with_reducible repeat (first | refine blk_drewN ?_ _ | refine blk_drew ?_ | refine blk_alloc ?_ _)); refine blk_put (cs := #[.string ((rd_T42 l0_3 x16_1).f0), .string ((rd_T42 l0_3 x16_1).f1), .int .i64 0, .int .i64 0, .slice none 0 0]) ?_ 2 _ rfl; (with_reducible repeat (first | refine blk_drewN ?_ _ | refine blk_drew ?_ | refine blk_alloc ?_ _)); refine blk_put (cs := #[.string ((rd_T42 l0_3 x16_1).f0), .string (⟨#[]⟩ : ByteArray), .int .i64 0, .int .i64 0, .slice none 0 0]) ?_ 1 _ rfl; (with_reducible repeat (first | refine blk_drewN ?_ _ | refine blk_drew ?_ | refine blk_alloc ?_ _)); refine blk_put (cs := #[.string (⟨#[]⟩ : ByteArray), .string (⟨#[]⟩ : ByteArray), .int .i64 0, .int .i64 0, .slice none 0 0]) ?_ 0 _ rfl; exact zk BK405) hb); replace HB := hs w hb; (try clear hb); obtain ⟨hcz21_0, hcz21_1, hcz21_2, hcz21_3, hcz21_4, hfz21_0, hfz21_1, hfz21_2, hfz21_3, hfz21_4⟩ := cz5 BK405))
        go_roundg k1
        case measure => have := HK1.out; omega
        case rel => exact ⟨(wrap64 (x16_1 + 1)), ar, H', ⟨by have := HK1.out; omega⟩, ⟨(zk BK403)⟩, ⟨(zb w)⟩⟩
       ·replace c15 := Bool.eq_false_iff.mpr c15
        subst c15
        have H1 : (some 9) = some r := by rw [if_neg (show ¬ (false = true) by decide)] at H; exact H
        clear H
        have H := H1
        clear H1
        obtain rfl := Option.some.inj H
        have p404 : 0 ≤ (x16_1 : Int) := of_decide_eq_true (by assumption)
        have q404 : x16_1 < (l0_3.length : Int) := of_decide_eq_true (by assumption)
        obtain ⟨ad404, A404_4, c404_4, e404, hx404_0, hx404_1, hx404_2, hx404_3, hx404_4, hl404_4, hi404_4⟩ := at_T42 HR0_3.out x16_1 p404 q404
        cases e404
        replace hx404_0 := hz HB hx404_0
        replace hx404_1 := hz HB hx404_1
        replace hx404_2 := hz HB hx404_2
        replace hx404_3 := hz HB hx404_3
        replace hx404_4 := hz HB hx404_4
        have HR404_4 := Aside0.mk hi404_4
        have HC404_4 := Aside0.mk hl404_4
        clear hi404_4 hl404_4
        replace p404 := eq_true p404
        replace q404 := eq_true q404
        go_wp2_with (first | ((with_reducible refine gD 4 rfl ?_); refine bx w 4 #[.string (⟨#[]⟩ : ByteArray), .string (⟨#[]⟩ : ByteArray), .int .i64 0, .int .i64 0, .slice none 0 0] 42 ?_; intro gb405 hg w22 hb BK405 GW405 GE405; clear HB; intro HB; have NB403_405 := nbl BK403 hg; have NB405_403 := nbr BK403 hg; replace BK403 := bb BK403 hb; clear hb hg; have hnb23 := NB405_403.out; have hnc23 := NB403_405.out; obtain ⟨hcz24_0, hcz24_1, hcz24_2, hcz24_3, hcz24_4, hfz24_0, hfz24_1, hfz24_2, hfz24_3, hfz24_4⟩ := cz5 BK405; obtain ⟨hcz25_0, hcz25_1, hcz25_2, hcz25_3, hfz25_0, hfz25_1, hfz25_2, hfz25_3⟩ := cz4 BK403) | ((with_reducible refine gC 29 rfl ?_); refine gl_ 24 Tryz.func29 #[.agg #[.string a0_0, .string a0_1, .int .i64 a0_2, .slice (some ad404) l0_3.length c0_3], .string ((rd_T42 l0_3 x16_1).f1)] ?_; (with_reducible refine (parcel_parcelAt.calls k1 a0_0 a0_1 a0_2 _ _ l0_3 ((rd_T42 l0_3 x16_1).f1) t406 false _ ?side1 HC0_3.out A7.out).mono ?_); (case side1 => exact Kd.C_below HR0_3.out (zb w)); rintro e w26 ⟨rfl, hb⟩; refine ⟨_, rfl, ?_⟩; replace BK403 := Aside0.mk (blk_below (g := gb403) (o := .cells #[.string a0_0, .string a0_1, .int .i64 a0_2, .slice (some ad404) l0_3.length c0_3] 24 (0, 0)) (by (with_reducible repeat (first | refine blk_drewN ?_ _ | refine blk_drew ?_ | refine blk_alloc ?_ _)); refine blk_far ?_ NB403_405.out _; (with_reducible repeat (first | refine blk_drewN ?_ _ | refine blk_drew ?_ | refine blk_alloc ?_ _)); refine blk_far ?_ NB403_405.out _; (with_reducible repeat (first | refine blk_drewN ?_ _ | refine blk_drew ?_ | refine blk_alloc ?_ _)); refine blk_far ?_ NB403_405.out _; (with_reducible repeat (first | refine blk_drewN ?_ _ | refine blk_drew ?_ | refine blk_alloc ?_ _)); refine blk_far ?_ NB403_405.out _; (with_reducible repeat (first | refine blk_drewN ?_ _ | refine blk_drew ?_ | refine blk_alloc ?_ _)); refine blk_far ?_ NB403_405.out _; exact zk BK403) hb); replace BK405 := Aside0.mk (blk_below (g := gb405) (o := .cells #[.string ((rd_T42 l0_3 x16_1).f0), .string ((rd_T42 l0_3 x16_1).f1), .int .i64 ((rd_T42 l0_3 x16_1).f2.f0), .int .i64 ((rd_T42 l0_3 x16_1).f2.f1), .slice A404_4 ((rd_T42 l0_3 x16_1).f3).length c404_4] 42 (0, 0)) (by (with_reducible repeat (first | refine blk_drewN ?_ _ | refine blk_drew ?_ | refine blk_alloc ?_ _)); refine blk_put (cs := #[.string ((rd_T42 l0_3 x16_1).f0), .string ((rd_T42 l0_3 x16_1).f1), .int .i64 ((rd_T42 l0_3 x16_1).f2.f0), .int .i64 ((rd_T42 l0_3 x16_1).f2.f1), .slice none 0 0]) ?_ 4 _ rfl; (with_reducible repeat (first | refine blk_drewN ?_ _ | refine blk_drew ?_ | refine blk_alloc ?_ _)); refine blk_put (cs := #[.string ((rd_T42 l0_3 x16_1).f0), .string ((rd_T42 l0_3 x16_1).f1), .int .i64 ((rd_T42 l0_3 x16_1).f2.f0), .int .i64 0, .slice none 0 0]) ?_ 3 _ rfl; (with_reducible repeat (first | refine blk_drewN ?_ _ | refine blk_drew ?_ | refine blk_alloc ?_ _)); refine blk_put (cs := #[.string ((rd_T42 l0_3 x16_1).f0), .string ((rd_T42 l0_3 x16_1).f1), .int .i64 0, .int .i64 0, .slice none 0 0]) ?_ 2 _ rfl; (with_reducible repeat (first | refine blk_drewN ?_ _ | refine blk_drew ?_ | refine blk_alloc ?_ _)); refine blk_put (cs := #[.string ((rd_T42 l0_3 x16_1).f0), .string (⟨#[]⟩ : ByteArray), .int .i64 0, .int .i64 0, .slice none 0 0]) ?_ 1 _ rfl; (with_reducible repeat (first | refine blk_drewN ?_ _ | refine blk_drew ?_ | refine blk_alloc ?_ _)); refine blk_put (cs := #[.string (⟨#[]⟩ : ByteArray), .string (⟨#[]⟩ : ByteArray), .int .i64 0, .int .i64 0, .slice none 0 0]) ?_ 0 _ rfl; exact zk BK405) hb); replace HB := hs w hb; (try clear hb); obtain ⟨hcz27_0, hcz27_1, hcz27_2, hcz27_3, hcz27_4, hfz27_0, hfz27_1, hfz27_2, hfz27_3, hfz27_4⟩ := cz5 BK405))
        go_ret
        exact ⟨by first | rfl | (simp [errW_none, errW_some] <;> rfl) | (simp [*, errW_none, errW_some] <;> rfl), (zb w)⟩
     ·rw [if_neg c6] at H
      exact absurd H (by simp)
    ·rw [if_neg c5] at H
     exact absurd H (by simp)
   ·rw [if_neg c4] at H
    have c4b0 : decide (x16_1 < (l0_3.length : Int)) = false := decide_eq_false c4
    clear c4
    have H' := Aside0.mk H
    clear H
    obtain ⟨hcz28_0, hcz28_1, hcz28_2, hcz28_3, hfz28_0, hfz28_1, hfz28_2, hfz28_3⟩ := cz4 BK403
    go_wp2
    try simp only [sq]
    go_loopg [38] k1 (fun kq v38 w' => ∃ (x38_2 : Int), v38 = .int .i64 x38_2 ∧ Aside0 (parcel_nestFault.l1 kq (l0_3.length : Int) x38_2 a0_0 a0_1 a0_2 l0_3 = some r) ∧ Aside0 (kq ≤ k1) ∧ Aside0 (w'.heap[gb403]? = some (.cells #[.string a0_0, .string a0_1, .int .i64 a0_2, (.slice A0_3 l0_3.length c0_3)] 24 (0, 0))) ∧ Aside0 (Below w.heap.size w w'))
    case atStart => exact ⟨(0), ar, H', ⟨Nat.le_refl _⟩, ⟨(zk BK403)⟩, ⟨(zb w)⟩⟩
    case round =>
     clear H'
     try clear c1
     try clear c2
     try clear p2
     try clear c4
     try clear c4b0
     try clear p4
     try clear q4
     try clear hx4
     try clear c5
     try clear c5b0
     try clear c6
     try clear c6b0
     try clear p6
     try clear c8
     try clear c8b0
     try clear c8b1
     try clear c10
     try clear c15
     try clear c17
     try clear c23
     try clear c26
     try clear hcz11_0 hcz11_1 hcz11_2 hcz11_3 hcz11_4
     try clear hcz12_0 hcz12_1 hcz12_2 hcz12_3
     try clear hcz14_0 hcz14_1 hcz14_2 hcz14_3 hcz14_4
     try clear hcz18_0 hcz18_1 hcz18_2 hcz18_3 hcz18_4
     try clear hcz19_0 hcz19_1 hcz19_2 hcz19_3
     try clear hcz21_0 hcz21_1 hcz21_2 hcz21_3 hcz21_4
     try clear hcz24_0 hcz24_1 hcz24_2 hcz24_3 hcz24_4
     try clear hcz25_0 hcz25_1 hcz25_2 hcz25_3
     try clear hcz27_0 hcz27_1 hcz27_2 hcz27_3 hcz27_4
     try clear hcz28_0 hcz28_1 hcz28_2 hcz28_3
     try clear hcz3_0 hcz3_1 hcz3_2 hcz3_3
     try clear hfz11_0 hfz11_1 hfz11_2 hfz11_3 hfz11_4
     try clear hfz12_0 hfz12_1 hfz12_2 hfz12_3
     try clear hfz14_0 hfz14_1 hfz14_2 hfz14_3 hfz14_4
     try clear hfz18_0 hfz18_1 hfz18_2 hfz18_3 hfz18_4
     try clear hfz19_0 hfz19_1 hfz19_2 hfz19_3
     try clear hfz21_0 hfz21_1 hfz21_2 hfz21_3 hfz21_4
     try clear hfz24_0 hfz24_1 hfz24_2 hfz24_3 hfz24_4
     try clear hfz25_0 hfz25_1 hfz25_2 hfz25_3
     try clear hfz27_0 hfz27_1 hfz27_2 hfz27_3 hfz27_4
     try clear hfz28_0 hfz28_1 hfz28_2 hfz28_3
     try clear hfz3_0 hfz3_1 hfz3_2 hfz3_3
     try clear hx404_0
     try clear hx404_1
     try clear hx404_2
     try clear hx404_3
     try clear hx404_4
     try clear p2
     try clear p404
     try clear q404
     obtain ⟨x38_2, rfl, HA, HK2, BK403, HB⟩ := hrel
     cases gk with
     | zero => exact absurd HA.out (by simp [parcel_nestFault.l1])
     | succ k2 =>
      have H := HA.out
      clear HA
      simp only [parcel_nestFault.l1] at H
      by_cases c29 : x38_2 < (l0_3.length : Int)
      ·rw [if_pos c29] at H
       have c29b0 : decide (x38_2 < (l0_3.length : Int)) = true := decide_eq_true c29
       clear c29
       replace H := Option.bind_eq_some_iff.mp H
       obtain ⟨⟨t408, t411⟩, A300, H⟩ := H
       try dsimp only at H
       have A30 := Aside0.mk A300
       clear A300
       by_cases c31 : t411 = true
       ·subst c31
        have H1 : (parcel_nestFault.l1 k2 (l0_3.length : Int) (wrap64 (x38_2 + 1)) a0_0 a0_1 a0_2 l0_3) = some r := by rw [if_pos rfl] at H; exact H
        clear H
        have H := H1
        clear H1
        have H' := Aside0.mk H
        clear H
        obtain ⟨hcz32_0, hcz32_1, hcz32_2, hcz32_3, hfz32_0, hfz32_1, hfz32_2, hfz32_3⟩ := cz4 BK403
        go_wp2_with (first | ((with_reducible refine gC 30 rfl ?_); refine gl_ 44 Tryz.func30 #[.agg #[.string a0_0, .string a0_1, .int .i64 a0_2, .slice A0_3 l0_3.length c0_3], .int .i64 x38_2] ?_; (with_reducible refine (parcel_around.calls k2 a0_0 a0_1 a0_2 _ _ l0_3 x38_2 t408 true _ (zc HR0_3) HC0_3.out A30.out).mono ?_); rintro e w33 ⟨v409, rfl, ho0, hb⟩; refine ⟨_, rfl, ?_⟩; have HO410 := Aside0.mk (Kd.R_lower ho0 (below_size (zb w))); replace BK403 := bb BK403 hb; replace HB := hs w hb; (try clear hb); (try clear ho0)))
        go_roundg k2
        case measure => have := HK1.out; have := HK2.out; omega
        case rel => exact ⟨(wrap64 (x38_2 + 1)), ar, H', ⟨by have := HK1.out; have := HK2.out; omega⟩, ⟨(zk BK403)⟩, ⟨(zb w)⟩⟩
       ·replace c31 := Bool.eq_false_iff.mpr c31
        subst c31
        have H1 : (some 17) = some r := by rw [if_neg (show ¬ (false = true) by decide)] at H; exact H
        clear H
        have H := H1
        clear H1
        obtain rfl := Option.some.inj H
        obtain ⟨hcz34_0, hcz34_1, hcz34_2, hcz34_3, hfz34_0, hfz34_1, hfz34_2, hfz34_3⟩ := cz4 BK403
        go_wp2_with (first | ((with_reducible refine gC 30 rfl ?_); refine gl_ 44 Tryz.func30 #[.agg #[.string a0_0, .string a0_1, .int .i64 a0_2, .slice A0_3 l0_3.length c0_3], .int .i64 x38_2] ?_; (with_reducible refine (parcel_around.calls k2 a0_0 a0_1 a0_2 _ _ l0_3 x38_2 t408 false _ (zc HR0_3) HC0_3.out A30.out).mono ?_); rintro e w35 ⟨v409, rfl, ho0, hb⟩; refine ⟨_, rfl, ?_⟩; have HO410 := Aside0.mk (Kd.R_lower ho0 (below_size (zb w))); replace BK403 := bb BK403 hb; replace HB := hs w hb; (try clear hb); (try clear ho0)))
        go_ret
        exact ⟨by first | rfl | (simp [errW_none, errW_some] <;> rfl) | (simp [*, errW_none, errW_some] <;> rfl), (zb w)⟩
      ·rw [if_neg c29] at H
       have c29b0 : decide (x38_2 < (l0_3.length : Int)) = false := decide_eq_false c29
       clear c29
       have H' := Aside0.mk H
       clear H
       obtain ⟨hcz36_0, hcz36_1, hcz36_2, hcz36_3, hfz36_0, hfz36_1, hfz36_2, hfz36_3⟩ := cz4 BK403
       go_wp2
       try simp only [sq]
       go_loopg [53] k2 (fun kq v53 w' => ∃ (x53_3 : Int), v53 = .int .i64 x53_3 ∧ Aside0 (parcel_nestFault.l2 kq (l0_3.length : Int) x53_3 a0_0 a0_1 a0_2 l0_3 = some r) ∧ Aside0 (kq ≤ k2) ∧ Aside0 (w'.heap[gb403]? = some (.cells #[.string a0_0, .string a0_1, .int .i64 a0_2, (.slice A0_3 l0_3.length c0_3)] 24 (0, 0))) ∧ Aside0 (Below w.heap.size w w'))
       case atStart => exact ⟨(0), ar, H', ⟨Nat.le_refl _⟩, ⟨(zk BK403)⟩, ⟨(zb w)⟩⟩
       case round =>
        clear H'
        try clear c1
        try clear c2
        try clear p2
        try clear c3
        try clear c4
        try clear c4b0
        try clear p4
        try clear q4
        try clear hx4
        try clear c5
        try clear c5b0
        try clear c6
        try clear c6b0
        try clear p6
        try clear c8
        try clear c8b0
        try clear c8b1
        try clear c10
        try clear c15
        try clear c17
        try clear c23
        try clear c26
        try clear c29
        try clear c29b0
        try clear c30
        try clear c31
        try clear hcz11_0 hcz11_1 hcz11_2 hcz11_3 hcz11_4
        try clear hcz12_0 hcz12_1 hcz12_2 hcz12_3
        try clear hcz14_0 hcz14_1 hcz14_2 hcz14_3 hcz14_4
        try clear hcz18_0 hcz18_1 hcz18_2 hcz18_3 hcz18_4
        try clear hcz19_0 hcz19_1 hcz19_2 hcz19_3
        try clear hcz21_0 hcz21_1 hcz21_2 hcz21_3 hcz21_4
        try clear hcz24_0 hcz24_1 hcz24_2 hcz24_3 hcz24_4
        try clear hcz25_0 hcz25_1 hcz25_2 hcz25_3
        try clear hcz27_0 hcz27_1 hcz27_2 hcz27_3 hcz27_4
        try clear hcz28_0 hcz28_1 hcz28_2 hcz28_3
        try clear hcz32_0 hcz32_1 hcz32_2 hcz32_3
        try clear hcz34_0 hcz34_1 hcz34_2 hcz34_3
        try clear hcz36_0 hcz36_1 hcz36_2 hcz36_3
        try clear hcz3_0 hcz3_1 hcz3_2 hcz3_3
        try clear hfz11_0 hfz11_1 hfz11_2 hfz11_3 hfz11_4
        try clear hfz12_0 hfz12_1 hfz12_2 hfz12_3
        try clear hfz14_0 hfz14_1 hfz14_2 hfz14_3 hfz14_4
        try clear hfz18_0 hfz18_1 hfz18_2 hfz18_3 hfz18_4
        try clear hfz19_0 hfz19_1 hfz19_2 hfz19_3
        try clear hfz21_0 hfz21_1 hfz21_2 hfz21_3 hfz21_4
        try clear hfz24_0 hfz24_1 hfz24_2 hfz24_3 hfz24_4
        try clear hfz25_0 hfz25_1 hfz25_2 hfz25_3
        try clear hfz27_0 hfz27_1 hfz27_2 hfz27_3 hfz27_4
        try clear hfz28_0 hfz28_1 hfz28_2 hfz28_3
        try clear hfz32_0 hfz32_1 hfz32_2 hfz32_3
        try clear hfz34_0 hfz34_1 hfz34_2 hfz34_3
        try clear hfz36_0 hfz36_1 hfz36_2 hfz36_3
        try clear hfz3_0 hfz3_1 hfz3_2 hfz3_3
        try clear hx404_0
        try clear hx404_1
        try clear hx404_2
        try clear hx404_3
        try clear hx404_4
        try clear p2
        try clear p4
        try clear p404
        try clear p6
        try clear q4
        try clear q404
        obtain ⟨x53_3, rfl, HA, HK3, BK403, HB⟩ := hrel
        cases gk with
        | zero => exact absurd HA.out (by simp [parcel_nestFault.l2])
        | succ k3 =>
         have H := HA.out
         clear HA
         simp only [parcel_nestFault.l2] at H
         by_cases c37 : x53_3 < (l0_3.length : Int)
         ·rw [if_pos c37] at H
          have c37b0 : decide (x53_3 < (l0_3.length : Int)) = true := decide_eq_true c37
          clear c37
          replace H := Option.bind_eq_some_iff.mp H
          obtain ⟨⟨t412, t415⟩, A380, H⟩ := H
          try dsimp only at H
          have A38 := Aside0.mk A380
          clear A380
          by_cases c39 : (t412.length : Int) > 5
          ·rw [if_pos c39] at H
           have c39b0 : decide (5 < (t412.length : Int)) = true := decide_eq_true c39
           have c39b1 : decide (5 < t412.length) = true := decide_eq_true (by omega)
           clear c39
           obtain rfl := Option.some.inj H
           obtain ⟨hcz40_0, hcz40_1, hcz40_2, hcz40_3, hfz40_0, hfz40_1, hfz40_2, hfz40_3⟩ := cz4 BK403
           go_wp2_with (first | ((with_reducible refine gC 30 rfl ?_); refine gl_ 59 Tryz.func30 #[.agg #[.string a0_0, .string a0_1, .int .i64 a0_2, .slice A0_3 l0_3.length c0_3], .int .i64 x53_3] ?_; (with_reducible refine (parcel_around.calls k3 a0_0 a0_1 a0_2 _ _ l0_3 x53_3 t412 t415 _ (zc HR0_3) HC0_3.out A38.out).mono ?_); rintro e w41 ⟨v413, rfl, ho0, hb⟩; refine ⟨_, rfl, ?_⟩; have HO414 := Aside0.mk (Kd.R_lower ho0 (below_size (zb w))); replace BK403 := bb BK403 hb; replace HB := hs w hb; (try clear hb); (try clear ho0); obtain ⟨Ao42, co42, eo42⟩ := Kd.R_slice HO414.out; subst eo42))
           go_ret
           exact ⟨by first | rfl | (simp [errW_none, errW_some] <;> rfl) | (simp [*, errW_none, errW_some] <;> rfl), (zb w)⟩
          ·rw [if_neg c39] at H
           have c39b0 : decide (5 < (t412.length : Int)) = false := decide_eq_false c39
           have c39b1 : decide (5 < t412.length) = false := decide_eq_false (by omega)
           clear c39
           have H' := Aside0.mk H
           clear H
           obtain ⟨hcz43_0, hcz43_1, hcz43_2, hcz43_3, hfz43_0, hfz43_1, hfz43_2, hfz43_3⟩ := cz4 BK403
           go_wp2_with (first | ((with_reducible refine gC 30 rfl ?_); refine gl_ 59 Tryz.func30 #[.agg #[.string a0_0, .string a0_1, .int .i64 a0_2, .slice A0_3 l0_3.length c0_3], .int .i64 x53_3] ?_; (with_reducible refine (parcel_around.calls k3 a0_0 a0_1 a0_2 _ _ l0_3 x53_3 t412 t415 _ (zc HR0_3) HC0_3.out A38.out).mono ?_); rintro e w44 ⟨v413, rfl, ho0, hb⟩; refine ⟨_, rfl, ?_⟩; have HO414 := Aside0.mk (Kd.R_lower ho0 (below_size (zb w))); replace BK403 := bb BK403 hb; replace HB := hs w hb; (try clear hb); (try clear ho0); obtain ⟨Ao45, co45, eo45⟩ := Kd.R_slice HO414.out; subst eo45))
           go_roundg k3
           case measure => have := HK1.out; have := HK2.out; have := HK3.out; omega
           case rel => exact ⟨(wrap64 (x53_3 + 1)), ar, H', ⟨by have := HK1.out; have := HK2.out; have := HK3.out; omega⟩, ⟨(zk BK403)⟩, ⟨(zb w)⟩⟩
         ·rw [if_neg c37] at H
          have c37b0 : decide (x53_3 < (l0_3.length : Int)) = false := decide_eq_false c37
          clear c37
          obtain rfl := Option.some.inj H
          go_wp2
          go_ret
          exact ⟨by first | rfl | (simp [errW_none, errW_some] <;> rfl) | (simp [*, errW_none, errW_some] <;> rfl), (zb w)⟩

end Go.Proofs.YthgefhnolmloiaaGreatDoor.P3
