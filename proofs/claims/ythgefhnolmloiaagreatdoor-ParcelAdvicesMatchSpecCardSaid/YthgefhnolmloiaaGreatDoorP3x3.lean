-- Made by a program of this session out of the translation (wip/pp.py): functions, contracts.
import Derived.Test.YthgefhnolmloiaaGreatDoorP3x0
import Derived.Test.YthgefhnolmloiaaGreatDoorP3x2
namespace Go.Proofs.YthgefhnolmloiaaGreatDoor.P3
open Go.RowKit Go.Proofs.YthgefhnolmloiaaGreatDoorW.PrintWords Go.Proofs.YthgefhnolmloiaaGreatDoorW.PrintLast Go.Proofs.YthgefhnolmloiaaGreatDoorW.PrintMore
attribute [local go_sem] max2_int min2_int max_two min_two max_three min_three max_four min_four   -- for this text's walks alone
set_option linter.unusedVariables false
set_option linter.unusedSimpArgs false

/-! ### interchangeref1_Plus_fo: function 95 -/
def interchangeref1_Plus_fo.l0 : Nat → Int → Int → Int → Bool → List Int → Bool → List Int → Bool → List Int → Option (Bool × List Int)
 | 0, _, _, _, _, _, _, _, _, _ => none
 | k + 1, x6, x31, x32, x129000, x129001, x130000, x130001, x133000, x133001 => if x32 < x31 then (if 0 ≤ x32 then (if x32 < (x129001.length : Int) then ((interchangeref1_digit.f x130001 x32).bind fun t134 => (if (wrap64 ((wrap64 ((rd x129001 x32) - t134)) - x6)) < 0 then (if x133001.length < 17592186044416 then (interchangeref1_Plus_fo.l0 k 1 x31 (wrap64 (x32 + 1)) x129000 x129001 x130000 x130001 x133000 (x133001 ++ [wrap64 ((wrap64 ((wrap64 ((rd x129001 x32) - t134)) - x6)) + 1000000)])) else (none)) else (if x133001.length < 17592186044416 then (interchangeref1_Plus_fo.l0 k 0 x31 (wrap64 (x32 + 1)) x129000 x129001 x130000 x130001 x133000 (x133001 ++ [wrap64 ((wrap64 ((rd x129001 x32) - t134)) - x6)])) else (none)))) else (none)) else (none)) else ((interchangeref1_trimmed.f k x133000 x133001).bind fun bt141 => (some (bt141.1, bt141.2)))
def interchangeref1_Plus_fo.f (k : Nat) (a0_0 : Bool) (l0_1 : List Int) (a1_0 : Bool) (l1_1 : List Int) : Option (Bool × List Int) := if (!(a0_0 == a1_0)) = true then ((interchangeref1_sizes.f k l0_1 l1_1).bind fun t131 => (if t131 < 0 then (none) else (interchangeref1_Plus_fo.l0 k 0 (l0_1.length : Int) 0 a0_0 l0_1 a1_0 l1_1 a0_0 ([] : List Int)))) else (none)
theorem interchangeref1_Plus_fo.mono_l : ∀ k, (∀ y0 y1 y2 y3 y4 y5 y6 y7 y8, LeO (interchangeref1_Plus_fo.l0 k y0 y1 y2 y3 y4 y5 y6 y7 y8) (interchangeref1_Plus_fo.l0 (k + 1) y0 y1 y2 y3 y4 y5 y6 y7 y8))
 | 0 => fun _ _ _ _ _ _ _ _ _ r h => by simp [interchangeref1_Plus_fo.l0] at h
 | k + 1 => by
  have ih0 := interchangeref1_Plus_fo.mono_l k
  ·intro y0 y1 y2 y3 y4 y5 y6 y7 y8
   unfold interchangeref1_Plus_fo.l0
   repeat' first | with_reducible first | exact ih0 _ _ _ _ _ _ _ _ _ | exact interchangeref1_sizes.mono _ _ _ | exact interchangeref1_trimmed.mono _ _ _ | exact lr _ | exact ln _ | refine li ?_ ?_ | refine lb ?_ fun _ => ?_ | exact ih0 _ _ _ _ _ _ _ _ _ | exact interchangeref1_sizes.mono _ _ _ | exact interchangeref1_trimmed.mono _ _ _ | exact ln _ | refine li ?_ ?_ | refine lb ?_ fun _ => ?_
theorem interchangeref1_Plus_fo.mono : ∀ a0 a1 a2 a3 k, LeO (interchangeref1_Plus_fo.f k a0 a1 a2 a3) (interchangeref1_Plus_fo.f (k + 1) a0 a1 a2 a3) := by
 intro a0 a1 a2 a3 k
 have ih0 := interchangeref1_Plus_fo.mono_l k
 unfold interchangeref1_Plus_fo.f
 repeat' first | with_reducible first | exact ih0 _ _ _ _ _ _ _ _ _ | exact interchangeref1_sizes.mono _ _ _ | exact interchangeref1_trimmed.mono _ _ _ | exact lr _ | exact ln _ | refine li ?_ ?_ | refine lb ?_ fun _ => ?_ | exact ih0 _ _ _ _ _ _ _ _ _ | exact interchangeref1_sizes.mono _ _ _ | exact interchangeref1_trimmed.mono _ _ _ | exact ln _ | refine li ?_ ?_ | refine lb ?_ fun _ => ?_
def interchangeref1_Plus_fo.T9 : Bool × List (List Nat × List Nat) := (true, [([], []), ([0], [0]), ([], []), ([1, 2], [1, 2]), ([3], [3]), ([], []), ([5], [5]), ([], []), ([6, 7], [6, 7]), ([4, 8], [4, 8]), ([], []), ([9, 10], [9, 10]), ([11, 8, 0, 1, 2, 3, 4, 5, 6, 7, 8, 9, 10, 11], [11])])
def interchangeref1_Plus_fo.B9 : List Nat := [0, 1, 0, 7, 15, 0, 32, 0, 224, 511, 0, 2047, 4095]
theorem interchangeref1_Plus_fo.tab9 : rtab .any (opsOf Tryz.f95 9) = interchangeref1_Plus_fo.T9 := by kernel_rfl
theorem interchangeref1_Plus_fo.bits9 : waitsOk interchangeref1_Plus_fo.T9.2 interchangeref1_Plus_fo.B9 = true := by kernel_rfl
set_option maxHeartbeats 8000000 in
set_option maxRecDepth 100000 in
theorem interchangeref1_Plus_fo.calls (k : Nat) (a0_0 : Bool) (A0_1 : Option Addr) (c0_1 : Nat) (l0_1 : List Int) (a1_0 : Bool) (A1_1 : Option Addr) (c1_1 : Nat) (l1_1 : List Int) (r1 : Bool) (r2 : List Int) (w : World) (hr0_1 : Kd.C (Kd.int .i64) w A0_1 l0_1.length l0_1) (hc0_1 : l0_1.length ≤ c0_1) (hr1_1 : Kd.C (Kd.int .i64) w A1_1 l1_1.length l1_1) (hc1_1 : l1_1.length ≤ c1_1) (h : interchangeref1_Plus_fo.f k a0_0 l0_1 a1_0 l1_1 = some (r1, r2)) :
  Calls Tryz.prog 95 #[.agg #[.bool a0_0, .slice A0_1 l0_1.length c0_1], .agg #[.bool a1_0, .slice A1_1 l1_1.length c1_1]] w fun e w' => ∃ v1_ : Value, e = .returned (.agg #[.bool r1, v1_]) ∧ Kd.V (Kd.int .i64) 3 w' w.heap.size (fun k_ => (w.heap.size ≤ k_)) v1_ r2 ∧ Below w.heap.size w w' := by
 have hu84 := Tryz.underlying84
 have HR0_1 := Aside0.mk hr0_1
 have HC0_1 := Aside0.mk hc0_1
 clear hr0_1 hc0_1
 have HR1_1 := Aside0.mk hr1_1
 have HC1_1 := Aside0.mk hc1_1
 clear hr1_1 hc1_1
 have HB := Aside0.mk (Below.refl w.heap.size w)
 have H := h
 unfold interchangeref1_Plus_fo.f at H
 clear h
 by_cases c3 : (!(a0_0 == a1_0)) = true
 ·rw [if_pos c3] at H
  have c3b0 : (!(a0_0 == a1_0)) = true := c3
  clear c3
  replace H := Option.bind_eq_some_iff.mp H
  obtain ⟨t131, A40, H⟩ := H
  try dsimp only at H
  have A4 := Aside0.mk A40
  clear A40
  by_cases c5 : t131 < 0
  ·rw [if_pos c5] at H
   exact absurd H (by simp)
  ·rw [if_neg c5] at H
   have c5b0 : decide (t131 < 0) = false := decide_eq_false c5
   clear c5
   have H' := Aside0.mk H
   clear H
   go_enter Tryz.func95, Tryz.ntmps95
   go_wp2_with (first | ((with_reducible refine gD 2 rfl ?_); refine bx w 2 #[.bool a0_0, .slice A0_1 l0_1.length c0_1] 84 ?_; intro gb128 hg w6 hb BK128 GW128 GE128; clear HB; intro HB; clear hb hg) | ((with_reducible refine gD 3 rfl ?_); refine bx w 3 #[.bool a1_0, .slice A1_1 l1_1.length c1_1] 84 ?_; intro gb129 hg w7 hb BK129 GW129 GE129; clear HB; intro HB; have NB128_129 := nbl BK128 hg; have NB129_128 := nbr BK128 hg; replace BK128 := bb BK128 hb; clear hb hg) | ((with_reducible refine gD 4 rfl ?_); refine bx w 4 #[.bool false, .slice none 0 0] 84 ?_; intro gb130 hg w8 hb BK130 GW130 GE130; clear HB; intro HB; have NB128_130 := nbl BK128 hg; have NB130_128 := nbr BK128 hg; replace BK128 := bb BK128 hb; have NB129_130 := nbl BK129 hg; have NB130_129 := nbr BK129 hg; replace BK129 := bb BK129 hb; clear hb hg; have hnb9 := NB128_129.out; have hnc9 := NB129_128.out; have hnb10 := NB128_130.out; have hnc10 := NB130_128.out; obtain ⟨hcz11_0, hcz11_1, hfz11_0, hfz11_1⟩ := cz2 BK128; have hnb12 := NB129_130.out; have hnc12 := NB130_129.out; obtain ⟨hcz13_0, hcz13_1, hfz13_0, hfz13_1⟩ := cz2 BK129) | ((with_reducible refine gC 119 rfl ?_); refine gl_ 22 Tryz.func119 #[.slice A0_1 l0_1.length c0_1, .slice A1_1 l1_1.length c1_1] ?_; (with_reducible refine (interchangeref1_sizes.calls k _ _ l0_1 _ _ l1_1 t131 _ (zc HR0_1) HC0_1.out (zc HR1_1) HC1_1.out A4.out).mono ?_); rintro e w14 ⟨rfl, hb⟩; refine ⟨_, rfl, ?_⟩; replace BK128 := bb BK128 hb; replace BK129 := bb BK129 hb; replace BK130 := bb BK130 hb; replace HB := hs w hb; (try clear hb); obtain ⟨hcz15_0, hcz15_1, hfz15_0, hfz15_1⟩ := cz2 BK128) | ((with_reducible refine gD 5 rfl ?_); refine bx w 5 #[.bool false, .slice none 0 0] 84 ?_; intro gb132 hg w16 hb BK132 GW132 GE132; clear HB; intro HB; have NB128_132 := nbl BK128 hg; have NB132_128 := nbr BK128 hg; replace BK128 := bb BK128 hb; have NB129_132 := nbl BK129 hg; have NB132_129 := nbr BK129 hg; replace BK129 := bb BK129 hb; have NB130_132 := nbl BK130 hg; have NB132_130 := nbr BK130 hg; replace BK130 := bb BK130 hb; clear hb hg; have hnb17 := NB132_128.out; have hnc17 := NB128_132.out; have hnb18 := NB132_129.out; have hnc18 := NB129_132.out; have hnb19 := NB132_130.out; have hnc19 := NB130_132.out; obtain ⟨hcz20_0, hcz20_1, hfz20_0, hfz20_1⟩ := cz2 BK132; obtain ⟨hcz21_0, hcz21_1, hfz21_0, hfz21_1⟩ := cz2 BK128))
   try simp only [sq]
   go_loopg [6, 32] k (fun kq v6 v32 w' => ∃ (x6_1 : Int) (x32_1 : Int) (x133001_1 : List Int) (u133001 : Value), v6 = .int .i64 x6_1 ∧ v32 = .int .i64 x32_1 ∧ Aside0 (interchangeref1_Plus_fo.l0 kq x6_1 (l0_1.length : Int) x32_1 a0_0 l0_1 a1_0 l1_1 a0_0 x133001_1 = some (r1, r2)) ∧ Aside0 (kq ≤ k) ∧ Aside0 (Kd.R (Kd.int .i64) 3 w' w.heap.size (fun k_ => (w.heap.size ≤ k_)) u133001 x133001_1) ∧ Aside0 (w'.heap[gb128]? = some (.cells #[.bool a0_0, (.slice A0_1 l0_1.length c0_1)] 84 (0, 0))) ∧ Aside0 (w'.heap[gb129]? = some (.cells #[.bool a1_0, (.slice A1_1 l1_1.length c1_1)] 84 (0, 0))) ∧ Aside0 (w'.heap[gb130]? = some (.cells #[.bool false, (.slice none 0 0)] 84 (0, 0))) ∧ Aside0 (w'.heap[gb132]? = some (.cells #[.bool a0_0, u133001] 84 (0, 0))) ∧ Aside0 (Below w.heap.size w w'))
   case atStart => exact ⟨(0), (0), (([] : List Int)), (.slice none 0 0), ar, ar, H', ⟨Nat.le_refl _⟩, ⟨by first | exact Kd.R_nil _ _ _ _ _ | exact Kd.N_nil _ _ _ _ _ | exact Kd.V_nil _ _ _ _ _ | exact Kd.Q_nil _ _ _ _ _ | exact Kd.S_nil _ _ _ _ _⟩, ⟨by (with_reducible repeat (first | refine blk_drewN ?_ _ | refine blk_drew ?_ | refine blk_alloc ?_ _)); refine blk_far ?_ NB128_132.out _; (with_reducible repeat (first | refine blk_drewN ?_ _ | refine blk_drew ?_ | refine blk_alloc ?_ _)); refine blk_far ?_ NB128_132.out _; exact zk BK128⟩, ⟨by (with_reducible repeat (first | refine blk_drewN ?_ _ | refine blk_drew ?_ | refine blk_alloc ?_ _)); refine blk_far ?_ NB129_132.out _; (with_reducible repeat (first | refine blk_drewN ?_ _ | refine blk_drew ?_ | refine blk_alloc ?_ _)); refine blk_far ?_ NB129_132.out _; exact zk BK129⟩, ⟨by (with_reducible repeat (first | refine blk_drewN ?_ _ | refine blk_drew ?_ | refine blk_alloc ?_ _)); refine blk_far ?_ NB130_132.out _; (with_reducible repeat (first | refine blk_drewN ?_ _ | refine blk_drew ?_ | refine blk_alloc ?_ _)); refine blk_far ?_ NB130_132.out _; exact zk BK130⟩, ⟨by (with_reducible repeat (first | refine blk_drewN ?_ _ | refine blk_drew ?_ | refine blk_alloc ?_ _)); refine blk_put (cs := #[.bool a0_0, .slice none 0 0]) ?_ 1 _ rfl; (with_reducible repeat (first | refine blk_drewN ?_ _ | refine blk_drew ?_ | refine blk_alloc ?_ _)); refine blk_put (cs := #[.bool false, .slice none 0 0]) ?_ 0 _ rfl; exact zk BK132⟩, ⟨(zb w)⟩⟩
   case round =>
    clear H'
    try clear c1
    try clear p2
    try clear c3
    try clear c3b0
    try clear c5
    try clear c5b0
    try clear c9
    try clear c10
    try clear c11
    try clear c12
    try clear c17
    try clear c18
    try clear c19
    try clear hcz11_0 hcz11_1
    try clear hcz13_0 hcz13_1
    try clear hcz15_0 hcz15_1
    try clear hcz20_0 hcz20_1
    try clear hcz21_0 hcz21_1
    try clear hfz11_0 hfz11_1
    try clear hfz13_0 hfz13_1
    try clear hfz15_0 hfz15_1
    try clear hfz20_0 hfz20_1
    try clear hfz21_0 hfz21_1
    obtain ⟨x6_1, x32_1, x133001_1, u133001, rfl, rfl, HA, HK1, HO_133001, BK128, BK129, BK130, BK132, HB⟩ := hrel
    cases gk with
    | zero => exact absurd HA.out (by simp [interchangeref1_Plus_fo.l0])
    | succ k1 =>
     have H := HA.out
     clear HA
     simp only [interchangeref1_Plus_fo.l0] at H
     by_cases c22 : x32_1 < (l0_1.length : Int)
     ·rw [if_pos c22] at H
      have c22b0 : decide (x32_1 < (l0_1.length : Int)) = true := decide_eq_true c22
      clear c22
      by_cases c23 : 0 ≤ x32_1
      ·rw [if_pos c23] at H
       have c23b0 : decide (0 ≤ x32_1) = true := decide_eq_true c23
       clear c23
       by_cases c24 : x32_1 < (l0_1.length : Int)
       ·rw [if_pos c24] at H
        have c24b0 : decide (x32_1 < (l0_1.length : Int)) = true := decide_eq_true c24
        clear c24
        replace H := Option.bind_eq_some_iff.mp H
        obtain ⟨t134, A250, H⟩ := H
        try dsimp only at H
        have A25 := Aside0.mk A250
        clear A250
        by_cases c26 : (wrap64 ((wrap64 ((rd l0_1 x32_1) - t134)) - x6_1)) < 0
        ·rw [if_pos c26] at H
         have c26b0 : decide ((wrap64 ((wrap64 ((rd l0_1 x32_1) - t134)) - x6_1)) < 0) = true := decide_eq_true c26
         clear c26
         by_cases c27 : x133001_1.length < 17592186044416
         ·rw [if_pos c27] at H
          have LMc27 := Aside0.mk c27
          clear c27
          obtain ⟨y135, hy135⟩ : ∃ y_ : List Int, y_ = (x133001_1 ++ [wrap64 ((wrap64 ((wrap64 ((rd l0_1 x32_1) - t134)) - x6_1)) + 1000000)]) := ⟨_, rfl⟩
          replace H : (interchangeref1_Plus_fo.l0 k1 1 (l0_1.length : Int) (wrap64 (x32_1 + 1)) a0_0 l0_1 a1_0 l1_1 a0_0 y135) = some (r1, r2) := by first | (rw [hy135]; with_reducible exact H) | (have H2_ := (Option.bind_some _ _).symm.trans H; rw [hy135]; with_reducible exact H2_) | (have H2_ := (Option.bind_some _ _).symm.trans H; with_reducible exact H2_) | with_reducible exact H | (rw [hy135]; exact H) | exact H
          have Ny135 := Aside0.mk hy135
          clear hy135
          have H' := Aside0.mk H
          clear H
          try go_wp2
          have n0_ := Aside0.mk (Kd.R_drew HO_133001.out)
          have n1_ := Aside0.mk (blk_drew BK128.out)
          have n2_ := Aside0.mk (blk_drew BK129.out)
          have n3_ := Aside0.mk (blk_drew BK130.out)
          have n4_ := Aside0.mk (blk_drew BK132.out)
          have n5_ := Aside0.mk (below_drew1 HB.out)
          clear HO_133001
          clear BK128
          clear BK129
          clear BK130
          clear BK132
          clear HB
          have HO_133001 := n0_
          have BK128 := n1_
          have BK129 := n2_
          have BK130 := n3_
          have BK132 := n4_
          have HB := n5_
          clear n0_ n1_ n2_ n3_ n4_ n5_
          have p133 : 0 ≤ (x32_1 : Int) := of_decide_eq_true (by assumption)
          have q133 : x32_1 < (l0_1.length : Int) := of_decide_eq_true (by assumption)
          obtain ⟨ad133, e133, hx133_0⟩ := Kd.at_int HR0_1.out x32_1 p133 q133
          have hw133_0 := hx133_0
          cases e133
          replace hx133_0 := hz HB hx133_0
          replace p133 := eq_true p133
          replace q133 := eq_true q133
          refine start_ (n := 13) (S := fun w' => w'.cell? ⟨gb128, 0, none⟩ = some (.bool a0_0) ∧ w'.cell? ⟨gb128, 1, none⟩ = some (.slice (some ad133) l0_1.length c0_1) ∧ w'.cell? ⟨gb129, 0, none⟩ = some (.bool a1_0) ∧ w'.cell? ⟨gb129, 1, none⟩ = some (.slice A1_1 l1_1.length c1_1) ∧ w'.cell? (ad133.add (x32_1).toNat) = some (.int .i64 (rd l0_1 x32_1))) (ds := []) (bm 13 0) (by kernel_rfl) rfl rfl ⟨(blk_cell BK128.out 0).trans rfl, (blk_cell BK128.out 1).trans rfl, (blk_cell BK129.out 0).trans rfl, (blk_cell BK129.out 1).trans rfl, ((HB.out.cell (World.block_lt_of_cell? w _ hw133_0)).trans hw133_0)⟩ (fun hHeld => ?_); refine with_tabW interchangeref1_Plus_fo.tab9 interchangeref1_Plus_fo.bits9 (fun HT_ HW_ => ?_)
          generalize wr.drew = w28 at HO_133001 BK128 BK129 BK130 BK132 HB hx133_0 hHeld ⊢
          refine pu 0 35 (bm 13 1) HT_ ?_
          refine pu 2 37 (bm 13 5) HT_ ?_
          refine pu 5 40 (bm 13 37) HT_ ?_
          refine pu 7 42 (bm 13 165) HT_ ?_
          refine pu 10 45 (bm 13 1189) HT_ ?_
          refine ta5 1 36 (bm 13 1191) HT_ HW_ hHeld ?_
          refine pu 3 38 (bm 13 1199) HT_ ?_
          refine ta5 4 39 (bm 13 1215) HT_ HW_ hHeld ?_
          refine ta5 6 41 (bm 13 1279) HT_ HW_ hHeld ?_
          refine one_ (i := 8) (N := some 43) (bm 13 1535) rfl rfl (one_of HT_.out (by kernel_rfl)) (by decide) (fun K hK => ?_)
          refine gs Tryz.func120 #[.slice A1_1 l1_1.length c1_1, .int .i64 x32_1] ?_
          with_reducible refine (interchangeref1_digit.calls _ _ l1_1 x32_1 t134 _ (zc HR1_1) HC1_1.out A25.out).mono ?_
          rintro e w29 ⟨rfl, hb⟩
          refine ⟨_, rfl, ?_⟩
          have n0_ := rb HO_133001 hb
          have n1_ := bb BK128 hb
          have n2_ := bb BK129 hb
          have n3_ := bb BK130 hb
          have n4_ := bb BK132 hb
          have n5_ := hs w hb
          clear HO_133001
          clear BK128
          clear BK129
          clear BK130
          clear BK132
          clear HB
          have HO_133001 := n0_
          have BK128 := n1_
          have BK129 := n2_
          have BK130 := n3_
          have BK132 := n4_
          have HB := n5_
          clear n0_ n1_ n2_ n3_ n4_ n5_
          (try clear hb)
          (try clear hb2)
          (try clear hk)
          (try clear hi)
          refine hK.out _ _ ⟨(blk_cell BK128.out 0).trans rfl, (blk_cell BK128.out 1).trans rfl, (blk_cell BK129.out 0).trans rfl, (blk_cell BK129.out 1).trans rfl, ((HB.out.cell (World.block_lt_of_cell? w _ hw133_0)).trans hw133_0)⟩ (fun hHeld => ?_)
          clear hK K
          refine norm_ (a' := ?_) ?_ ?_
          rotate_left
          ·show Act.put _ (some 43) _ = _
           simp only [sq, i64_w, i32_w]
           rfl
          refine pu 9 44 (bm 13 2047) HT_ ?_
          refine pu 11 46 (bm 13 4095) HT_ ?_
          refine pu 12 8 (bm 13 8191) HT_ ?_
          refine done_ (done_of HT_.out (by kernel_rfl)) ?_
          have hnb30 := NB132_128.out
          have hnc30 := NB128_132.out
          have hnb31 := NB132_129.out
          have hnc31 := NB129_132.out
          have hnb32 := NB132_130.out
          have hnc32 := NB130_132.out
          obtain ⟨hcz33_0, hcz33_1, hfz33_0, hfz33_1⟩ := cz2 BK132
          try go_wp2_with (first | ((with_reducible refine gate_builtin (b := .append) (xs := #[.tmp 52, .tmp 54]) rfl ?_); at_builtin; refine Kd.R_append (Kd.int .i64) (w0 := w) w.heap.size rfl (.tmp 52) (.tmp 54) 35 3 (.int .i64 0) 8 rfl Tryz.underlying35 info3 rfl (by decide) (by omega) u133001 x133001_1 (wrap64 ((wrap64 ((wrap64 ((rd l0_1 x32_1) - t134)) - x6_1)) + 1000000)) [.int .i64 (wrap64 ((wrap64 ((wrap64 ((rd l0_1 x32_1) - t134)) - x6_1)) + 1000000))] (fun k_ => (w.heap.size ≤ k_)) (fun _ => False) rfl rfl ?aP (fun _ hk => hk.elim) ?aF ?aO ?aB ?aS ?aL ?_; (case aP => exact rfl); (case aB => exact (zb w)); (case aF => exact (fun k_ hk => (Nat.le_trans (below_size (zb w)) hk))); (case aO => exact (zo HO_133001)); (case aS => exact (below_size (zb w))); (case aL => have := LMc27.out; omega); intro v136 w34 ho hb hg hat; rw [← Ny135.out] at ho; replace BK128 := Aside0.mk (blk_grown (g := gb128) (o := .cells #[.bool a0_0, .slice (some ad133) l0_1.length c0_1] 84 (0, 0)) (zk BK128) hg (Kd.R_ne HO_133001.out BK128.out (by decide))); replace BK129 := Aside0.mk (blk_grown (g := gb129) (o := .cells #[.bool a1_0, .slice A1_1 l1_1.length c1_1] 84 (0, 0)) (zk BK129) hg (Kd.R_ne HO_133001.out BK129.out (by decide))); replace BK130 := Aside0.mk (blk_grown (g := gb130) (o := .cells #[.bool false, .slice none 0 0] 84 (0, 0)) (zk BK130) hg (Kd.R_ne HO_133001.out BK130.out (by decide))); replace BK132 := Aside0.mk (blk_grown (g := gb132) (o := .cells #[.bool a0_0, u133001] 84 (0, 0)) (zk BK132) hg (Kd.R_ne HO_133001.out BK132.out (by decide))); replace HB := Aside0.mk (hb); have HO137 := Aside0.mk (ho); clear HO_133001; clear ho hb hg hat; obtain ⟨Ao35, co35, eo35⟩ := Kd.R_slice HO137.out; subst eo35; obtain ⟨hcz36_0, hcz36_1, hfz36_0, hfz36_1⟩ := cz2 BK132))
          go_roundg k1
          case measure => have := HK1.out; omega
          case rel => exact ⟨(1), (wrap64 (x32_1 + 1)), (y135), (.slice Ao35 y135.length co35), ar, ar, H', ⟨by have := HK1.out; omega⟩, ⟨by (with_reducible repeat (first | apply Kd.R_alloc | apply Kd.R_drewN | apply Kd.R_drew)); exact Kd.R_mono (Kd.R_far (p := ⟨gb132, 1, none⟩) (Kd.R_types HO137.out BK132.out (by decide)) (fun _ hk => hk.2) (.slice Ao35 y135.length co35)) (fun _ hk => hk.1)⟩, ⟨by (with_reducible repeat (first | refine blk_drewN ?_ _ | refine blk_drew ?_ | refine blk_alloc ?_ _)); refine blk_far ?_ NB128_132.out _; exact zk BK128⟩, ⟨by (with_reducible repeat (first | refine blk_drewN ?_ _ | refine blk_drew ?_ | refine blk_alloc ?_ _)); refine blk_far ?_ NB129_132.out _; exact zk BK129⟩, ⟨by (with_reducible repeat (first | refine blk_drewN ?_ _ | refine blk_drew ?_ | refine blk_alloc ?_ _)); refine blk_far ?_ NB130_132.out _; exact zk BK130⟩, ⟨by (with_reducible repeat (first | refine blk_drewN ?_ _ | refine blk_drew ?_ | refine blk_alloc ?_ _)); refine blk_put (cs := #[.bool a0_0, u133001]) ?_ 1 _ rfl; exact zk BK132⟩, ⟨(zb w)⟩⟩
         ·rw [if_neg c27] at H
          exact absurd H (by simp)
        ·rw [if_neg c26] at H
         have c26b0 : decide ((wrap64 ((wrap64 ((rd l0_1 x32_1) - t134)) - x6_1)) < 0) = false := decide_eq_false c26
         clear c26
         by_cases c37 : x133001_1.length < 17592186044416
         ·rw [if_pos c37] at H
          have LMc37 := Aside0.mk c37
          clear c37
          obtain ⟨y138, hy138⟩ : ∃ y_ : List Int, y_ = (x133001_1 ++ [wrap64 ((wrap64 ((rd l0_1 x32_1) - t134)) - x6_1)]) := ⟨_, rfl⟩
          replace H : (interchangeref1_Plus_fo.l0 k1 0 (l0_1.length : Int) (wrap64 (x32_1 + 1)) a0_0 l0_1 a1_0 l1_1 a0_0 y138) = some (r1, r2) := by first | (rw [hy138]; with_reducible exact H) | (have H2_ := (Option.bind_some _ _).symm.trans H; rw [hy138]; with_reducible exact H2_) | (have H2_ := (Option.bind_some _ _).symm.trans H; with_reducible exact H2_) | with_reducible exact H | (rw [hy138]; exact H) | exact H
          have Ny138 := Aside0.mk hy138
          clear hy138
          have H' := Aside0.mk H
          clear H
          try go_wp2
          have n0_ := Aside0.mk (Kd.R_drew HO_133001.out)
          have n1_ := Aside0.mk (blk_drew BK128.out)
          have n2_ := Aside0.mk (blk_drew BK129.out)
          have n3_ := Aside0.mk (blk_drew BK130.out)
          have n4_ := Aside0.mk (blk_drew BK132.out)
          have n5_ := Aside0.mk (below_drew1 HB.out)
          clear HO_133001
          clear BK128
          clear BK129
          clear BK130
          clear BK132
          clear HB
          have HO_133001 := n0_
          have BK128 := n1_
          have BK129 := n2_
          have BK130 := n3_
          have BK132 := n4_
          have HB := n5_
          clear n0_ n1_ n2_ n3_ n4_ n5_
          have p133 : 0 ≤ (x32_1 : Int) := of_decide_eq_true (by assumption)
          have q133 : x32_1 < (l0_1.length : Int) := of_decide_eq_true (by assumption)
          obtain ⟨ad133, e133, hx133_0⟩ := Kd.at_int HR0_1.out x32_1 p133 q133
          have hw133_0 := hx133_0
          cases e133
          replace hx133_0 := hz HB hx133_0
          replace p133 := eq_true p133
          replace q133 := eq_true q133
          refine start_ (n := 13) (S := fun w' => w'.cell? ⟨gb128, 0, none⟩ = some (.bool a0_0) ∧ w'.cell? ⟨gb128, 1, none⟩ = some (.slice (some ad133) l0_1.length c0_1) ∧ w'.cell? ⟨gb129, 0, none⟩ = some (.bool a1_0) ∧ w'.cell? ⟨gb129, 1, none⟩ = some (.slice A1_1 l1_1.length c1_1) ∧ w'.cell? (ad133.add (x32_1).toNat) = some (.int .i64 (rd l0_1 x32_1))) (ds := []) (bm 13 0) (by kernel_rfl) rfl rfl ⟨(blk_cell BK128.out 0).trans rfl, (blk_cell BK128.out 1).trans rfl, (blk_cell BK129.out 0).trans rfl, (blk_cell BK129.out 1).trans rfl, ((HB.out.cell (World.block_lt_of_cell? w _ hw133_0)).trans hw133_0)⟩ (fun hHeld => ?_); refine with_tabW interchangeref1_Plus_fo.tab9 interchangeref1_Plus_fo.bits9 (fun HT_ HW_ => ?_)
          generalize wr.drew = w38 at HO_133001 BK128 BK129 BK130 BK132 HB hx133_0 hHeld ⊢
          refine pu 0 35 (bm 13 1) HT_ ?_
          refine pu 2 37 (bm 13 5) HT_ ?_
          refine pu 5 40 (bm 13 37) HT_ ?_
          refine pu 7 42 (bm 13 165) HT_ ?_
          refine pu 10 45 (bm 13 1189) HT_ ?_
          refine ta5 1 36 (bm 13 1191) HT_ HW_ hHeld ?_
          refine pu 3 38 (bm 13 1199) HT_ ?_
          refine ta5 4 39 (bm 13 1215) HT_ HW_ hHeld ?_
          refine ta5 6 41 (bm 13 1279) HT_ HW_ hHeld ?_
          refine one_ (i := 8) (N := some 43) (bm 13 1535) rfl rfl (one_of HT_.out (by kernel_rfl)) (by decide) (fun K hK => ?_)
          refine gs Tryz.func120 #[.slice A1_1 l1_1.length c1_1, .int .i64 x32_1] ?_
          with_reducible refine (interchangeref1_digit.calls _ _ l1_1 x32_1 t134 _ (zc HR1_1) HC1_1.out A25.out).mono ?_
          rintro e w39 ⟨rfl, hb⟩
          refine ⟨_, rfl, ?_⟩
          have n0_ := rb HO_133001 hb
          have n1_ := bb BK128 hb
          have n2_ := bb BK129 hb
          have n3_ := bb BK130 hb
          have n4_ := bb BK132 hb
          have n5_ := hs w hb
          clear HO_133001
          clear BK128
          clear BK129
          clear BK130
          clear BK132
          clear HB
          have HO_133001 := n0_
          have BK128 := n1_
          have BK129 := n2_
          have BK130 := n3_
          have BK132 := n4_
          have HB := n5_
          clear n0_ n1_ n2_ n3_ n4_ n5_
          (try clear hb)
          (try clear hb2)
          (try clear hk)
          (try clear hi)
          refine hK.out _ _ ⟨(blk_cell BK128.out 0).trans rfl, (blk_cell BK128.out 1).trans rfl, (blk_cell BK129.out 0).trans rfl, (blk_cell BK129.out 1).trans rfl, ((HB.out.cell (World.block_lt_of_cell? w _ hw133_0)).trans hw133_0)⟩ (fun hHeld => ?_)
          clear hK K
          refine norm_ (a' := ?_) ?_ ?_
          rotate_left
          ·show Act.put _ (some 43) _ = _
           simp only [sq, i64_w, i32_w]
           rfl
          refine pu 9 44 (bm 13 2047) HT_ ?_
          refine pu 11 46 (bm 13 4095) HT_ ?_
          refine pu 12 8 (bm 13 8191) HT_ ?_
          refine done_ (done_of HT_.out (by kernel_rfl)) ?_
          have hnb40 := NB132_128.out
          have hnc40 := NB128_132.out
          have hnb41 := NB132_129.out
          have hnc41 := NB129_132.out
          have hnb42 := NB132_130.out
          have hnc42 := NB130_132.out
          obtain ⟨hcz43_0, hcz43_1, hfz43_0, hfz43_1⟩ := cz2 BK132
          try go_wp2_with (first | ((with_reducible refine gate_builtin (b := .append) (xs := #[.tmp 52, .tmp 54]) rfl ?_); at_builtin; refine Kd.R_append (Kd.int .i64) (w0 := w) w.heap.size rfl (.tmp 52) (.tmp 54) 35 3 (.int .i64 0) 8 rfl Tryz.underlying35 info3 rfl (by decide) (by omega) u133001 x133001_1 (wrap64 ((wrap64 ((rd l0_1 x32_1) - t134)) - x6_1)) [.int .i64 (wrap64 ((wrap64 ((rd l0_1 x32_1) - t134)) - x6_1))] (fun k_ => (w.heap.size ≤ k_)) (fun _ => False) rfl rfl ?aP (fun _ hk => hk.elim) ?aF ?aO ?aB ?aS ?aL ?_; (case aP => exact rfl); (case aB => exact (zb w)); (case aF => exact (fun k_ hk => (Nat.le_trans (below_size (zb w)) hk))); (case aO => exact (zo HO_133001)); (case aS => exact (below_size (zb w))); (case aL => have := LMc37.out; omega); intro v139 w44 ho hb hg hat; rw [← Ny138.out] at ho; replace BK128 := Aside0.mk (blk_grown (g := gb128) (o := .cells #[.bool a0_0, .slice (some ad133) l0_1.length c0_1] 84 (0, 0)) (zk BK128) hg (Kd.R_ne HO_133001.out BK128.out (by decide))); replace BK129 := Aside0.mk (blk_grown (g := gb129) (o := .cells #[.bool a1_0, .slice A1_1 l1_1.length c1_1] 84 (0, 0)) (zk BK129) hg (Kd.R_ne HO_133001.out BK129.out (by decide))); replace BK130 := Aside0.mk (blk_grown (g := gb130) (o := .cells #[.bool false, .slice none 0 0] 84 (0, 0)) (zk BK130) hg (Kd.R_ne HO_133001.out BK130.out (by decide))); replace BK132 := Aside0.mk (blk_grown (g := gb132) (o := .cells #[.bool a0_0, u133001] 84 (0, 0)) (zk BK132) hg (Kd.R_ne HO_133001.out BK132.out (by decide))); replace HB := Aside0.mk (hb); have HO140 := Aside0.mk (ho); clear HO_133001; clear ho hb hg hat; obtain ⟨Ao45, co45, eo45⟩ := Kd.R_slice HO140.out; subst eo45; obtain ⟨hcz46_0, hcz46_1, hfz46_0, hfz46_1⟩ := cz2 BK132))
          go_roundg k1
          case measure => have := HK1.out; omega
          case rel => exact ⟨(0), (wrap64 (x32_1 + 1)), (y138), (.slice Ao45 y138.length co45), ar, ar, H', ⟨by have := HK1.out; omega⟩, ⟨by (with_reducible repeat (first | apply Kd.R_alloc | apply Kd.R_drewN | apply Kd.R_drew)); exact Kd.R_mono (Kd.R_far (p := ⟨gb132, 1, none⟩) (Kd.R_types HO140.out BK132.out (by decide)) (fun _ hk => hk.2) (.slice Ao45 y138.length co45)) (fun _ hk => hk.1)⟩, ⟨by (with_reducible repeat (first | refine blk_drewN ?_ _ | refine blk_drew ?_ | refine blk_alloc ?_ _)); refine blk_far ?_ NB128_132.out _; exact zk BK128⟩, ⟨by (with_reducible repeat (first | refine blk_drewN ?_ _ | refine blk_drew ?_ | refine blk_alloc ?_ _)); refine blk_far ?_ NB129_132.out _; exact zk BK129⟩, ⟨by (with_reducible repeat (first | refine blk_drewN ?_ _ | refine blk_drew ?_ | refine blk_alloc ?_ _)); refine blk_far ?_ NB130_132.out _; exact zk BK130⟩, ⟨by (with_reducible repeat (first | refine blk_drewN ?_ _ | refine blk_drew ?_ | refine blk_alloc ?_ _)); refine blk_put (cs := #[.bool a0_0, u133001]) ?_ 1 _ rfl; exact zk BK132⟩, ⟨(zb w)⟩⟩
         ·rw [if_neg c37] at H
          exact absurd H (by simp)
       ·rw [if_neg c24] at H
        exact absurd H (by simp)
      ·rw [if_neg c23] at H
       exact absurd H (by simp)
     ·rw [if_neg c22] at H
      have c22b0 : decide (x32_1 < (l0_1.length : Int)) = false := decide_eq_false c22
      clear c22
      replace H := Option.bind_eq_some_iff.mp H
      obtain ⟨⟨t141, t142⟩, A470, H⟩ := H
      try dsimp only at H
      have A47 := Aside0.mk A470
      clear A470
      simp only [Option.some.injEq, Prod.mk.injEq] at H
      obtain ⟨rfl, rfl⟩ := H
      have hnb48 := NB132_128.out
      have hnc48 := NB128_132.out
      have hnb49 := NB132_129.out
      have hnc49 := NB129_132.out
      have hnb50 := NB132_130.out
      have hnc50 := NB130_132.out
      obtain ⟨hcz51_0, hcz51_1, hfz51_0, hfz51_1⟩ := cz2 BK132
      obtain ⟨Ao52, co52, eo52⟩ := Kd.R_slice HO_133001.out
      subst eo52
      go_wp2_with (first | ((with_reducible refine gC 121 rfl ?_); refine gl_ 59 Tryz.func121 #[.agg #[.bool a0_0, .slice Ao52 x133001_1.length co52]] ?_; (with_reducible refine (interchangeref1_trimmed.calls k1 a0_0 (fun k_ => some k_ = (.slice Ao52 x133001_1.length co52 : Value).ownBlock) _ _ x133001_1 t141 t142 _ ?side1 A47.out).mono ?_); (case side1 => exact Kd.R_V (Kd.R_tight rfl (Kd.R_types (Kd.R_types (Kd.R_types (Kd.R_types (HO_133001.out) BK128.out (by decide)) BK129.out (by decide)) BK130.out (by decide)) BK132.out (by decide)))); rintro e w53 ⟨v143, rfl, ho0, hb⟩; refine ⟨_, rfl, ?_⟩; have HO144 := Aside0.mk (Kd.V_lower (Kd.V_mono (ok' := fun k_ => (w.heap.size ≤ k_) ∧ k_ ≠ gb128 ∧ k_ ≠ gb129 ∧ k_ ≠ gb130 ∧ k_ ≠ gb132) ho0 (fun k_ hk_ => ⟨Or.elim hk_ (fun hs_ => ((Kd.R_types (Kd.R_types (Kd.R_types (Kd.R_types (HO_133001.out) BK128.out (by decide)) BK129.out (by decide)) BK130.out (by decide)) BK132.out (by decide)).1 k_ hs_.symm).1.1.1.1) (fun hn_ => (Nat.le_trans (below_size (zb w)) hn_)), Or.elim hk_ (fun hs_ => ((Kd.R_types (Kd.R_types (Kd.R_types (Kd.R_types (HO_133001.out) BK128.out (by decide)) BK129.out (by decide)) BK130.out (by decide)) BK132.out (by decide)).1 k_ hs_.symm).1.1.1.2) (fun hn_ => (Kd.freshB (g := gb128) (o := .cells #[.bool a0_0, .slice A0_1 l0_1.length c0_1] 84 (0, 0)) (zk BK128) k_ hn_)), Or.elim hk_ (fun hs_ => ((Kd.R_types (Kd.R_types (Kd.R_types (Kd.R_types (HO_133001.out) BK128.out (by decide)) BK129.out (by decide)) BK130.out (by decide)) BK132.out (by decide)).1 k_ hs_.symm).1.1.2) (fun hn_ => (Kd.freshB (g := gb129) (o := .cells #[.bool a1_0, .slice A1_1 l1_1.length c1_1] 84 (0, 0)) (zk BK129) k_ hn_)), Or.elim hk_ (fun hs_ => ((Kd.R_types (Kd.R_types (Kd.R_types (Kd.R_types (HO_133001.out) BK128.out (by decide)) BK129.out (by decide)) BK130.out (by decide)) BK132.out (by decide)).1 k_ hs_.symm).1.2) (fun hn_ => (Kd.freshB (g := gb130) (o := .cells #[.bool false, .slice none 0 0] 84 (0, 0)) (zk BK130) k_ hn_)), Or.elim hk_ (fun hs_ => ((Kd.R_types (Kd.R_types (Kd.R_types (Kd.R_types (HO_133001.out) BK128.out (by decide)) BK129.out (by decide)) BK130.out (by decide)) BK132.out (by decide)).1 k_ hs_.symm).2) (fun hn_ => (Kd.freshB (g := gb132) (o := .cells #[.bool a0_0, .slice Ao52 x133001_1.length co52] 84 (0, 0)) (zk BK132) k_ hn_))⟩)) (below_size (zb w))); replace HO_133001 := rb HO_133001 hb; replace BK128 := bb BK128 hb; replace BK129 := bb BK129 hb; replace BK130 := bb BK130 hb; replace BK132 := bb BK132 hb; replace HB := hs w hb; (try clear hb); (try clear ho0); have hnb54 := NB130_128.out; have hnc54 := NB128_130.out; have hnb55 := NB130_129.out; have hnc55 := NB129_130.out; obtain ⟨hcz56_0, hcz56_1, hfz56_0, hfz56_1⟩ := cz2 BK130; obtain ⟨Ao57, co57, eo57⟩ := Kd.V_slice HO144.out; subst eo57))
      refine bodyPost_ret (results_cell_row rfl _ _ gb130 84 #[.bool t141, .slice Ao57 t142.length co57] (0, 0) _ rfl (by (with_reducible repeat (first | refine blk_drewN ?_ _ | refine blk_drew ?_ | refine blk_alloc ?_ _)); refine blk_put (cs := #[.bool t141, .slice none 0 0]) ?_ 1 _ rfl; (with_reducible repeat (first | refine blk_drewN ?_ _ | refine blk_drew ?_ | refine blk_alloc ?_ _)); refine blk_put (cs := #[.bool false, .slice none 0 0]) ?_ 0 _ rfl; exact zk BK130) Tryz.underlying84 rfl (by kernel_rfl)) rfl ?_
      exact ⟨_, by first | rfl | (simp [errW_none, errW_some] <;> rfl) | (simp [*, errW_none, errW_some] <;> rfl), by (with_reducible repeat (first | apply Kd.V_alloc | apply Kd.V_drewN | apply Kd.V_drew)); exact Kd.V_mono (Kd.V_far (p := ⟨gb130, 1, none⟩) (Kd.V_far (p := ⟨gb130, 0, none⟩) (Kd.V_mono HO144.out (fun k_ hk => (⟨hk, hk.2.2.2.1⟩ : _ ∧ k_ ≠ gb130))) (fun _ hk => hk.2) (.bool t141)) (fun _ hk => hk.2) (.slice Ao57 t142.length co57)) (fun _ hk => hk.1.1), (zb w)⟩
 ·rw [if_neg c3] at H
  exact absurd H (by simp)

/-! ### interchangeref1_Plus_th: function 95 -/
def interchangeref1_Plus_th.l0 : Nat → Int → Int → Int → Bool → List Int → Bool → List Int → Bool → List Int → Option (Bool × List Int)
 | 0, _, _, _, _, _, _, _, _, _ => none
 | k + 1, x6, x31, x32, x146000, x146001, x147000, x147001, x150000, x150001 => if x32 < x31 then (if 0 ≤ x32 then (if x32 < (x146001.length : Int) then ((interchangeref1_digit.f x147001 x32).bind fun t151 => (if (wrap64 ((wrap64 ((rd x146001 x32) - t151)) - x6)) < 0 then (if x150001.length < 17592186044416 then (interchangeref1_Plus_th.l0 k 1 x31 (wrap64 (x32 + 1)) x146000 x146001 x147000 x147001 x150000 (x150001 ++ [wrap64 ((wrap64 ((wrap64 ((rd x146001 x32) - t151)) - x6)) + 1000000)])) else (none)) else (if x150001.length < 17592186044416 then (interchangeref1_Plus_th.l0 k 0 x31 (wrap64 (x32 + 1)) x146000 x146001 x147000 x147001 x150000 (x150001 ++ [wrap64 ((wrap64 ((rd x146001 x32) - t151)) - x6)])) else (none)))) else (none)) else (none)) else ((interchangeref1_trimmed.f k x150000 x150001).bind fun bt158 => (some (bt158.1, bt158.2)))
def interchangeref1_Plus_th.f (k : Nat) (a0_0 : Bool) (l0_1 : List Int) (a1_0 : Bool) (l1_1 : List Int) : Option (Bool × List Int) := if (!(a0_0 == a1_0)) = true then ((interchangeref1_sizes.f k l0_1 l1_1).bind fun t148 => (if t148 < 0 then (interchangeref1_Plus_th.l0 k 0 (l1_1.length : Int) 0 a1_0 l1_1 a0_0 l0_1 a1_0 ([] : List Int)) else (none))) else (none)
theorem interchangeref1_Plus_th.mono_l : ∀ k, (∀ y0 y1 y2 y3 y4 y5 y6 y7 y8, LeO (interchangeref1_Plus_th.l0 k y0 y1 y2 y3 y4 y5 y6 y7 y8) (interchangeref1_Plus_th.l0 (k + 1) y0 y1 y2 y3 y4 y5 y6 y7 y8))
 | 0 => fun _ _ _ _ _ _ _ _ _ r h => by simp [interchangeref1_Plus_th.l0] at h
 | k + 1 => by
  have ih0 := interchangeref1_Plus_th.mono_l k
  ·intro y0 y1 y2 y3 y4 y5 y6 y7 y8
   unfold interchangeref1_Plus_th.l0
   repeat' first | with_reducible first | exact ih0 _ _ _ _ _ _ _ _ _ | exact interchangeref1_sizes.mono _ _ _ | exact interchangeref1_trimmed.mono _ _ _ | exact lr _ | exact ln _ | refine li ?_ ?_ | refine lb ?_ fun _ => ?_ | exact ih0 _ _ _ _ _ _ _ _ _ | exact interchangeref1_sizes.mono _ _ _ | exact interchangeref1_trimmed.mono _ _ _ | exact ln _ | refine li ?_ ?_ | refine lb ?_ fun _ => ?_
theorem interchangeref1_Plus_th.mono : ∀ a0 a1 a2 a3 k, LeO (interchangeref1_Plus_th.f k a0 a1 a2 a3) (interchangeref1_Plus_th.f (k + 1) a0 a1 a2 a3) := by
 intro a0 a1 a2 a3 k
 have ih0 := interchangeref1_Plus_th.mono_l k
 unfold interchangeref1_Plus_th.f
 repeat' first | with_reducible first | exact ih0 _ _ _ _ _ _ _ _ _ | exact interchangeref1_sizes.mono _ _ _ | exact interchangeref1_trimmed.mono _ _ _ | exact lr _ | exact ln _ | refine li ?_ ?_ | refine lb ?_ fun _ => ?_ | exact ih0 _ _ _ _ _ _ _ _ _ | exact interchangeref1_sizes.mono _ _ _ | exact interchangeref1_trimmed.mono _ _ _ | exact ln _ | refine li ?_ ?_ | refine lb ?_ fun _ => ?_
def interchangeref1_Plus_th.T9 : Bool × List (List Nat × List Nat) := (true, [([], []), ([0], [0]), ([], []), ([1, 2], [1, 2]), ([3], [3]), ([], []), ([5], [5]), ([], []), ([6, 7], [6, 7]), ([4, 8], [4, 8]), ([], []), ([9, 10], [9, 10]), ([11, 8, 0, 1, 2, 3, 4, 5, 6, 7, 8, 9, 10, 11], [11])])
def interchangeref1_Plus_th.B9 : List Nat := [0, 1, 0, 7, 15, 0, 32, 0, 224, 511, 0, 2047, 4095]
theorem interchangeref1_Plus_th.tab9 : rtab .any (opsOf Tryz.f95 9) = interchangeref1_Plus_th.T9 := by kernel_rfl
theorem interchangeref1_Plus_th.bits9 : waitsOk interchangeref1_Plus_th.T9.2 interchangeref1_Plus_th.B9 = true := by kernel_rfl
set_option maxHeartbeats 8000000 in
set_option maxRecDepth 100000 in
theorem interchangeref1_Plus_th.calls (k : Nat) (a0_0 : Bool) (A0_1 : Option Addr) (c0_1 : Nat) (l0_1 : List Int) (a1_0 : Bool) (A1_1 : Option Addr) (c1_1 : Nat) (l1_1 : List Int) (r1 : Bool) (r2 : List Int) (w : World) (hr0_1 : Kd.C (Kd.int .i64) w A0_1 l0_1.length l0_1) (hc0_1 : l0_1.length ≤ c0_1) (hr1_1 : Kd.C (Kd.int .i64) w A1_1 l1_1.length l1_1) (hc1_1 : l1_1.length ≤ c1_1) (h : interchangeref1_Plus_th.f k a0_0 l0_1 a1_0 l1_1 = some (r1, r2)) :
  Calls Tryz.prog 95 #[.agg #[.bool a0_0, .slice A0_1 l0_1.length c0_1], .agg #[.bool a1_0, .slice A1_1 l1_1.length c1_1]] w fun e w' => ∃ v1_ : Value, e = .returned (.agg #[.bool r1, v1_]) ∧ Kd.V (Kd.int .i64) 3 w' w.heap.size (fun k_ => (w.heap.size ≤ k_)) v1_ r2 ∧ Below w.heap.size w w' := by
 have hu84 := Tryz.underlying84
 have HR0_1 := Aside0.mk hr0_1
 have HC0_1 := Aside0.mk hc0_1
 clear hr0_1 hc0_1
 have HR1_1 := Aside0.mk hr1_1
 have HC1_1 := Aside0.mk hc1_1
 clear hr1_1 hc1_1
 have HB := Aside0.mk (Below.refl w.heap.size w)
 have H := h
 unfold interchangeref1_Plus_th.f at H
 clear h
 by_cases c3 : (!(a0_0 == a1_0)) = true
 ·rw [if_pos c3] at H
  have c3b0 : (!(a0_0 == a1_0)) = true := c3
  clear c3
  replace H := Option.bind_eq_some_iff.mp H
  obtain ⟨t148, A40, H⟩ := H
  try dsimp only at H
  have A4 := Aside0.mk A40
  clear A40
  by_cases c5 : t148 < 0
  ·rw [if_pos c5] at H
   have c5b0 : decide (t148 < 0) = true := decide_eq_true c5
   clear c5
   have H' := Aside0.mk H
   clear H
   go_enter Tryz.func95, Tryz.ntmps95
   go_wp2_with (first | ((with_reducible refine gD 2 rfl ?_); refine bx w 2 #[.bool a0_0, .slice A0_1 l0_1.length c0_1] 84 ?_; intro gb145 hg w6 hb BK145 GW145 GE145; clear HB; intro HB; clear hb hg) | ((with_reducible refine gD 3 rfl ?_); refine bx w 3 #[.bool a1_0, .slice A1_1 l1_1.length c1_1] 84 ?_; intro gb146 hg w7 hb BK146 GW146 GE146; clear HB; intro HB; have NB145_146 := nbl BK145 hg; have NB146_145 := nbr BK145 hg; replace BK145 := bb BK145 hb; clear hb hg) | ((with_reducible refine gD 4 rfl ?_); refine bx w 4 #[.bool false, .slice none 0 0] 84 ?_; intro gb147 hg w8 hb BK147 GW147 GE147; clear HB; intro HB; have NB145_147 := nbl BK145 hg; have NB147_145 := nbr BK145 hg; replace BK145 := bb BK145 hb; have NB146_147 := nbl BK146 hg; have NB147_146 := nbr BK146 hg; replace BK146 := bb BK146 hb; clear hb hg; have hnb9 := NB145_146.out; have hnc9 := NB146_145.out; have hnb10 := NB145_147.out; have hnc10 := NB147_145.out; obtain ⟨hcz11_0, hcz11_1, hfz11_0, hfz11_1⟩ := cz2 BK145; have hnb12 := NB146_147.out; have hnc12 := NB147_146.out; obtain ⟨hcz13_0, hcz13_1, hfz13_0, hfz13_1⟩ := cz2 BK146) | ((with_reducible refine gC 119 rfl ?_); refine gl_ 22 Tryz.func119 #[.slice A0_1 l0_1.length c0_1, .slice A1_1 l1_1.length c1_1] ?_; (with_reducible refine (interchangeref1_sizes.calls k _ _ l0_1 _ _ l1_1 t148 _ (zc HR0_1) HC0_1.out (zc HR1_1) HC1_1.out A4.out).mono ?_); rintro e w14 ⟨rfl, hb⟩; refine ⟨_, rfl, ?_⟩; replace BK145 := bb BK145 hb; replace BK146 := bb BK146 hb; replace BK147 := bb BK147 hb; replace HB := hs w hb; (try clear hb); obtain ⟨hcz15_0, hcz15_1, hfz15_0, hfz15_1⟩ := cz2 BK146; obtain ⟨hcz16_0, hcz16_1, hfz16_0, hfz16_1⟩ := cz2 BK145) | ((with_reducible refine gD 5 rfl ?_); refine bx w 5 #[.bool false, .slice none 0 0] 84 ?_; intro gb149 hg w17 hb BK149 GW149 GE149; clear HB; intro HB; have NB145_149 := Aside0.mk ((by rw [hg]; exact Nat.ne_of_lt (blk_lt (g := gb145) (o := .cells #[.bool a1_0, .slice A1_1 l1_1.length c1_1] 84 (0, 0)) (by (with_reducible repeat (first | refine blk_drewN ?_ _ | refine blk_drew ?_ | refine blk_alloc ?_ _)); refine blk_far ?_ NB145_146.out _; (with_reducible repeat (first | refine blk_drewN ?_ _ | refine blk_drew ?_ | refine blk_alloc ?_ _)); refine blk_far ?_ NB145_146.out _; (with_reducible repeat (first | refine blk_drewN ?_ _ | refine blk_drew ?_ | refine blk_alloc ?_ _)); refine blk_put (cs := #[.bool a1_0, .slice A0_1 l0_1.length c0_1]) ?_ 1 _ rfl; (with_reducible repeat (first | refine blk_drewN ?_ _ | refine blk_drew ?_ | refine blk_alloc ?_ _)); refine blk_put (cs := #[.bool a0_0, .slice A0_1 l0_1.length c0_1]) ?_ 0 _ rfl; exact zk BK145)) : gb145 ≠ gb149)); have NB149_145 := Aside0.mk ((by rw [hg]; exact Nat.ne_of_gt (blk_lt (g := gb145) (o := .cells #[.bool a1_0, .slice A1_1 l1_1.length c1_1] 84 (0, 0)) (by (with_reducible repeat (first | refine blk_drewN ?_ _ | refine blk_drew ?_ | refine blk_alloc ?_ _)); refine blk_far ?_ NB145_146.out _; (with_reducible repeat (first | refine blk_drewN ?_ _ | refine blk_drew ?_ | refine blk_alloc ?_ _)); refine blk_far ?_ NB145_146.out _; (with_reducible repeat (first | refine blk_drewN ?_ _ | refine blk_drew ?_ | refine blk_alloc ?_ _)); refine blk_put (cs := #[.bool a1_0, .slice A0_1 l0_1.length c0_1]) ?_ 1 _ rfl; (with_reducible repeat (first | refine blk_drewN ?_ _ | refine blk_drew ?_ | refine blk_alloc ?_ _)); refine blk_put (cs := #[.bool a0_0, .slice A0_1 l0_1.length c0_1]) ?_ 0 _ rfl; exact zk BK145)) : gb149 ≠ gb145)); replace BK145 := Aside0.mk (blk_below (g := gb145) (o := .cells #[.bool a1_0, .slice A1_1 l1_1.length c1_1] 84 (0, 0)) (by (with_reducible repeat (first | refine blk_drewN ?_ _ | refine blk_drew ?_ | refine blk_alloc ?_ _)); refine blk_far ?_ NB145_146.out _; (with_reducible repeat (first | refine blk_drewN ?_ _ | refine blk_drew ?_ | refine blk_alloc ?_ _)); refine blk_far ?_ NB145_146.out _; (with_reducible repeat (first | refine blk_drewN ?_ _ | refine blk_drew ?_ | refine blk_alloc ?_ _)); refine blk_put (cs := #[.bool a1_0, .slice A0_1 l0_1.length c0_1]) ?_ 1 _ rfl; (with_reducible repeat (first | refine blk_drewN ?_ _ | refine blk_drew ?_ | refine blk_alloc ?_ _)); refine blk_put (cs := #[.bool a0_0, .slice A0_1 l0_1.length c0_1]) ?_ 0 _ rfl; exact zk BK145) hb); have NB146_149 := Aside0.mk ((by rw [hg]; exact Nat.ne_of_lt (blk_lt (g := gb146) (o := .cells #[.bool a0_0, .slice A0_1 l0_1.length c0_1] 84 (0, 0)) (by (with_reducible repeat (first | refine blk_drewN ?_ _ | refine blk_drew ?_ | refine blk_alloc ?_ _)); refine blk_put (cs := #[.bool a0_0, .slice A1_1 l1_1.length c1_1]) ?_ 1 _ rfl; (with_reducible repeat (first | refine blk_drewN ?_ _ | refine blk_drew ?_ | refine blk_alloc ?_ _)); refine blk_put (cs := #[.bool a1_0, .slice A1_1 l1_1.length c1_1]) ?_ 0 _ rfl; (with_reducible repeat (first | refine blk_drewN ?_ _ | refine blk_drew ?_ | refine blk_alloc ?_ _)); refine blk_far ?_ NB146_145.out _; (with_reducible repeat (first | refine blk_drewN ?_ _ | refine blk_drew ?_ | refine blk_alloc ?_ _)); refine blk_far ?_ NB146_145.out _; exact zk BK146)) : gb146 ≠ gb149)); have NB149_146 := Aside0.mk ((by rw [hg]; exact Nat.ne_of_gt (blk_lt (g := gb146) (o := .cells #[.bool a0_0, .slice A0_1 l0_1.length c0_1] 84 (0, 0)) (by (with_reducible repeat (first | refine blk_drewN ?_ _ | refine blk_drew ?_ | refine blk_alloc ?_ _)); refine blk_put (cs := #[.bool a0_0, .slice A1_1 l1_1.length c1_1]) ?_ 1 _ rfl; (with_reducible repeat (first | refine blk_drewN ?_ _ | refine blk_drew ?_ | refine blk_alloc ?_ _)); refine blk_put (cs := #[.bool a1_0, .slice A1_1 l1_1.length c1_1]) ?_ 0 _ rfl; (with_reducible repeat (first | refine blk_drewN ?_ _ | refine blk_drew ?_ | refine blk_alloc ?_ _)); refine blk_far ?_ NB146_145.out _; (with_reducible repeat (first | refine blk_drewN ?_ _ | refine blk_drew ?_ | refine blk_alloc ?_ _)); refine blk_far ?_ NB146_145.out _; exact zk BK146)) : gb149 ≠ gb146)); replace BK146 := Aside0.mk (blk_below (g := gb146) (o := .cells #[.bool a0_0, .slice A0_1 l0_1.length c0_1] 84 (0, 0)) (by (with_reducible repeat (first | refine blk_drewN ?_ _ | refine blk_drew ?_ | refine blk_alloc ?_ _)); refine blk_put (cs := #[.bool a0_0, .slice A1_1 l1_1.length c1_1]) ?_ 1 _ rfl; (with_reducible repeat (first | refine blk_drewN ?_ _ | refine blk_drew ?_ | refine blk_alloc ?_ _)); refine blk_put (cs := #[.bool a1_0, .slice A1_1 l1_1.length c1_1]) ?_ 0 _ rfl; (with_reducible repeat (first | refine blk_drewN ?_ _ | refine blk_drew ?_ | refine blk_alloc ?_ _)); refine blk_far ?_ NB146_145.out _; (with_reducible repeat (first | refine blk_drewN ?_ _ | refine blk_drew ?_ | refine blk_alloc ?_ _)); refine blk_far ?_ NB146_145.out _; exact zk BK146) hb); have NB147_149 := Aside0.mk ((by rw [hg]; exact Nat.ne_of_lt (blk_lt (g := gb147) (o := .cells #[.bool false, .slice none 0 0] 84 (0, 0)) (by (with_reducible repeat (first | refine blk_drewN ?_ _ | refine blk_drew ?_ | refine blk_alloc ?_ _)); refine blk_far ?_ NB147_146.out _; (with_reducible repeat (first | refine blk_drewN ?_ _ | refine blk_drew ?_ | refine blk_alloc ?_ _)); refine blk_far ?_ NB147_146.out _; (with_reducible repeat (first | refine blk_drewN ?_ _ | refine blk_drew ?_ | refine blk_alloc ?_ _)); refine blk_far ?_ NB147_145.out _; (with_reducible repeat (first | refine blk_drewN ?_ _ | refine blk_drew ?_ | refine blk_alloc ?_ _)); refine blk_far ?_ NB147_145.out _; exact zk BK147)) : gb147 ≠ gb149)); have NB149_147 := Aside0.mk ((by rw [hg]; exact Nat.ne_of_gt (blk_lt (g := gb147) (o := .cells #[.bool false, .slice none 0 0] 84 (0, 0)) (by (with_reducible repeat (first | refine blk_drewN ?_ _ | refine blk_drew ?_ | refine blk_alloc ?_ _)); refine blk_far ?_ NB147_146.out _; (with_reducible repeat (first | refine blk_drewN ?_ _ | refine blk_drew ?_ | refine blk_alloc ?_ _)); refine blk_far ?_ NB147_146.out _; (with_reducible repeat (first | refine blk_drewN ?_ _ | refine blk_drew ?_ | refine blk_alloc ?_ _)); refine blk_far ?_ NB147_145.out _; (with_reducible repeat (first | refine blk_drewN ?_ _ | refine blk_drew ?_ | refine blk_alloc ?_ _)); refine blk_far ?_ NB147_145.out _; exact zk BK147)) : gb149 ≠ gb147)); replace BK147 := Aside0.mk (blk_below (g := gb147) (o := .cells #[.bool false, .slice none 0 0] 84 (0, 0)) (by (with_reducible repeat (first | refine blk_drewN ?_ _ | refine blk_drew ?_ | refine blk_alloc ?_ _)); refine blk_far ?_ NB147_146.out _; (with_reducible repeat (first | refine blk_drewN ?_ _ | refine blk_drew ?_ | refine blk_alloc ?_ _)); refine blk_far ?_ NB147_146.out _; (with_reducible repeat (first | refine blk_drewN ?_ _ | refine blk_drew ?_ | refine blk_alloc ?_ _)); refine blk_far ?_ NB147_145.out _; (with_reducible repeat (first | refine blk_drewN ?_ _ | refine blk_drew ?_ | refine blk_alloc ?_ _)); refine blk_far ?_ NB147_145.out _; exact zk BK147) hb); clear hb hg; have hnb18 := NB149_145.out; have hnc18 := NB145_149.out; have hnb19 := NB149_146.out; have hnc19 := NB146_149.out; have hnb20 := NB149_147.out; have hnc20 := NB147_149.out; obtain ⟨hcz21_0, hcz21_1, hfz21_0, hfz21_1⟩ := cz2 BK149; obtain ⟨hcz22_0, hcz22_1, hfz22_0, hfz22_1⟩ := cz2 BK145))
   try simp only [sq]
   go_loopg [6, 32] k (fun kq v6 v32 w' => ∃ (x6_1 : Int) (x32_1 : Int) (x150001_1 : List Int) (u150001 : Value), v6 = .int .i64 x6_1 ∧ v32 = .int .i64 x32_1 ∧ Aside0 (interchangeref1_Plus_th.l0 kq x6_1 (l1_1.length : Int) x32_1 a1_0 l1_1 a0_0 l0_1 a1_0 x150001_1 = some (r1, r2)) ∧ Aside0 (kq ≤ k) ∧ Aside0 (Kd.R (Kd.int .i64) 3 w' w.heap.size (fun k_ => (w.heap.size ≤ k_)) u150001 x150001_1) ∧ Aside0 (w'.heap[gb145]? = some (.cells #[.bool a1_0, (.slice A1_1 l1_1.length c1_1)] 84 (0, 0))) ∧ Aside0 (w'.heap[gb146]? = some (.cells #[.bool a0_0, (.slice A0_1 l0_1.length c0_1)] 84 (0, 0))) ∧ Aside0 (w'.heap[gb147]? = some (.cells #[.bool false, (.slice none 0 0)] 84 (0, 0))) ∧ Aside0 (w'.heap[gb149]? = some (.cells #[.bool a1_0, u150001] 84 (0, 0))) ∧ Aside0 (Below w.heap.size w w'))
   case atStart => exact ⟨(0), (0), (([] : List Int)), (.slice none 0 0), ar, ar, H', ⟨Nat.le_refl _⟩, ⟨by first | exact Kd.R_nil _ _ _ _ _ | exact Kd.N_nil _ _ _ _ _ | exact Kd.V_nil _ _ _ _ _ | exact Kd.Q_nil _ _ _ _ _ | exact Kd.S_nil _ _ _ _ _⟩, ⟨by (with_reducible repeat (first | refine blk_drewN ?_ _ | refine blk_drew ?_ | refine blk_alloc ?_ _)); refine blk_far ?_ NB145_149.out _; (with_reducible repeat (first | refine blk_drewN ?_ _ | refine blk_drew ?_ | refine blk_alloc ?_ _)); refine blk_far ?_ NB145_149.out _; exact zk BK145⟩, ⟨by (with_reducible repeat (first | refine blk_drewN ?_ _ | refine blk_drew ?_ | refine blk_alloc ?_ _)); refine blk_far ?_ NB146_149.out _; (with_reducible repeat (first | refine blk_drewN ?_ _ | refine blk_drew ?_ | refine blk_alloc ?_ _)); refine blk_far ?_ NB146_149.out _; exact zk BK146⟩, ⟨by (with_reducible repeat (first | refine blk_drewN ?_ _ | refine blk_drew ?_ | refine blk_alloc ?_ _)); refine blk_far ?_ NB147_149.out _; (with_reducible repeat (first | refine blk_drewN ?_ _ | refine blk_drew ?_ | refine blk_alloc ?_ _)); refine blk_far ?_ NB147_149.out _; exact zk BK147⟩, ⟨by (with_reducible repeat (first | refine blk_drewN ?_ _ | refine blk_drew ?_ | refine blk_alloc ?_ _)); refine blk_put (cs := #[.bool a1_0, .slice none 0 0]) ?_ 1 _ rfl; (with_reducible repeat (first | refine blk_drewN ?_ _ | refine blk_drew ?_ | refine blk_alloc ?_ _)); refine blk_put (cs := #[.bool false, .slice none 0 0]) ?_ 0 _ rfl; exact zk BK149⟩, ⟨(zb w)⟩⟩
   case round =>
    clear H'
    try clear c1
    try clear c2
    try clear p2
    try clear c3
    try clear c3b0
    try clear c5
    try clear c5b0
    try clear c9
    try clear c10
    try clear c11
    try clear c12
    try clear c18
    try clear c19
    try clear c20
    try clear hcz11_0 hcz11_1
    try clear hcz13_0 hcz13_1
    try clear hcz15_0 hcz15_1
    try clear hcz16_0 hcz16_1
    try clear hcz21_0 hcz21_1
    try clear hcz22_0 hcz22_1
    try clear hfz11_0 hfz11_1
    try clear hfz13_0 hfz13_1
    try clear hfz15_0 hfz15_1
    try clear hfz16_0 hfz16_1
    try clear hfz21_0 hfz21_1
    try clear hfz22_0 hfz22_1
    obtain ⟨x6_1, x32_1, x150001_1, u150001, rfl, rfl, HA, HK1, HO_150001, BK145, BK146, BK147, BK149, HB⟩ := hrel
    cases gk with
    | zero => exact absurd HA.out (by simp [interchangeref1_Plus_th.l0])
    | succ k1 =>
     have H := HA.out
     clear HA
     simp only [interchangeref1_Plus_th.l0] at H
     by_cases c23 : x32_1 < (l1_1.length : Int)
     ·rw [if_pos c23] at H
      have c23b0 : decide (x32_1 < (l1_1.length : Int)) = true := decide_eq_true c23
      clear c23
      by_cases c24 : 0 ≤ x32_1
      ·rw [if_pos c24] at H
       have c24b0 : decide (0 ≤ x32_1) = true := decide_eq_true c24
       clear c24
       by_cases c25 : x32_1 < (l1_1.length : Int)
       ·rw [if_pos c25] at H
        have c25b0 : decide (x32_1 < (l1_1.length : Int)) = true := decide_eq_true c25
        clear c25
        replace H := Option.bind_eq_some_iff.mp H
        obtain ⟨t151, A260, H⟩ := H
        try dsimp only at H
        have A26 := Aside0.mk A260
        clear A260
        by_cases c27 : (wrap64 ((wrap64 ((rd l1_1 x32_1) - t151)) - x6_1)) < 0
        ·rw [if_pos c27] at H
         have c27b0 : decide ((wrap64 ((wrap64 ((rd l1_1 x32_1) - t151)) - x6_1)) < 0) = true := decide_eq_true c27
         clear c27
         by_cases c28 : x150001_1.length < 17592186044416
         ·rw [if_pos c28] at H
          have LMc28 := Aside0.mk c28
          clear c28
          obtain ⟨y152, hy152⟩ : ∃ y_ : List Int, y_ = (x150001_1 ++ [wrap64 ((wrap64 ((wrap64 ((rd l1_1 x32_1) - t151)) - x6_1)) + 1000000)]) := ⟨_, rfl⟩
          replace H : (interchangeref1_Plus_th.l0 k1 1 (l1_1.length : Int) (wrap64 (x32_1 + 1)) a1_0 l1_1 a0_0 l0_1 a1_0 y152) = some (r1, r2) := by first | (rw [hy152]; with_reducible exact H) | (have H2_ := (Option.bind_some _ _).symm.trans H; rw [hy152]; with_reducible exact H2_) | (have H2_ := (Option.bind_some _ _).symm.trans H; with_reducible exact H2_) | with_reducible exact H | (rw [hy152]; exact H) | exact H
          have Ny152 := Aside0.mk hy152
          clear hy152
          have H' := Aside0.mk H
          clear H
          try go_wp2
          have n0_ := Aside0.mk (Kd.R_drew HO_150001.out)
          have n1_ := Aside0.mk (blk_drew BK145.out)
          have n2_ := Aside0.mk (blk_drew BK146.out)
          have n3_ := Aside0.mk (blk_drew BK147.out)
          have n4_ := Aside0.mk (blk_drew BK149.out)
          have n5_ := Aside0.mk (below_drew1 HB.out)
          clear HO_150001
          clear BK145
          clear BK146
          clear BK147
          clear BK149
          clear HB
          have HO_150001 := n0_
          have BK145 := n1_
          have BK146 := n2_
          have BK147 := n3_
          have BK149 := n4_
          have HB := n5_
          clear n0_ n1_ n2_ n3_ n4_ n5_
          have p150 : 0 ≤ (x32_1 : Int) := of_decide_eq_true (by assumption)
          have q150 : x32_1 < (l1_1.length : Int) := of_decide_eq_true (by assumption)
          obtain ⟨ad150, e150, hx150_0⟩ := Kd.at_int HR1_1.out x32_1 p150 q150
          have hw150_0 := hx150_0
          cases e150
          replace hx150_0 := hz HB hx150_0
          replace p150 := eq_true p150
          replace q150 := eq_true q150
          refine start_ (n := 13) (S := fun w' => w'.cell? ⟨gb145, 0, none⟩ = some (.bool a1_0) ∧ w'.cell? ⟨gb145, 1, none⟩ = some (.slice (some ad150) l1_1.length c1_1) ∧ w'.cell? ⟨gb146, 0, none⟩ = some (.bool a0_0) ∧ w'.cell? ⟨gb146, 1, none⟩ = some (.slice A0_1 l0_1.length c0_1) ∧ w'.cell? (ad150.add (x32_1).toNat) = some (.int .i64 (rd l1_1 x32_1))) (ds := []) (bm 13 0) (by kernel_rfl) rfl rfl ⟨(blk_cell BK145.out 0).trans rfl, (blk_cell BK145.out 1).trans rfl, (blk_cell BK146.out 0).trans rfl, (blk_cell BK146.out 1).trans rfl, ((HB.out.cell (World.block_lt_of_cell? w _ hw150_0)).trans hw150_0)⟩ (fun hHeld => ?_); refine with_tabW interchangeref1_Plus_th.tab9 interchangeref1_Plus_th.bits9 (fun HT_ HW_ => ?_)
          generalize wr.drew = w29 at HO_150001 BK145 BK146 BK147 BK149 HB hx150_0 hHeld ⊢
          refine pu 0 35 (bm 13 1) HT_ ?_
          refine pu 2 37 (bm 13 5) HT_ ?_
          refine pu 5 40 (bm 13 37) HT_ ?_
          refine pu 7 42 (bm 13 165) HT_ ?_
          refine pu 10 45 (bm 13 1189) HT_ ?_
          refine ta5 1 36 (bm 13 1191) HT_ HW_ hHeld ?_
          refine pu 3 38 (bm 13 1199) HT_ ?_
          refine ta5 4 39 (bm 13 1215) HT_ HW_ hHeld ?_
          refine ta5 6 41 (bm 13 1279) HT_ HW_ hHeld ?_
          refine one_ (i := 8) (N := some 43) (bm 13 1535) rfl rfl (one_of HT_.out (by kernel_rfl)) (by decide) (fun K hK => ?_)
          refine gs Tryz.func120 #[.slice A0_1 l0_1.length c0_1, .int .i64 x32_1] ?_
          with_reducible refine (interchangeref1_digit.calls _ _ l0_1 x32_1 t151 _ (zc HR0_1) HC0_1.out A26.out).mono ?_
          rintro e w30 ⟨rfl, hb⟩
          refine ⟨_, rfl, ?_⟩
          have n0_ := rb HO_150001 hb
          have n1_ := bb BK145 hb
          have n2_ := bb BK146 hb
          have n3_ := bb BK147 hb
          have n4_ := bb BK149 hb
          have n5_ := hs w hb
          clear HO_150001
          clear BK145
          clear BK146
          clear BK147
          clear BK149
          clear HB
          have HO_150001 := n0_
          have BK145 := n1_
          have BK146 := n2_
          have BK147 := n3_
          have BK149 := n4_
          have HB := n5_
          clear n0_ n1_ n2_ n3_ n4_ n5_
          (try clear hb)
          (try clear hb2)
          (try clear hk)
          (try clear hi)
          refine hK.out _ _ ⟨(blk_cell BK145.out 0).trans rfl, (blk_cell BK145.out 1).trans rfl, (blk_cell BK146.out 0).trans rfl, (blk_cell BK146.out 1).trans rfl, ((HB.out.cell (World.block_lt_of_cell? w _ hw150_0)).trans hw150_0)⟩ (fun hHeld => ?_)
          clear hK K
          refine norm_ (a' := ?_) ?_ ?_
          rotate_left
          ·show Act.put _ (some 43) _ = _
           simp only [sq, i64_w, i32_w]
           rfl
          refine pu 9 44 (bm 13 2047) HT_ ?_
          refine pu 11 46 (bm 13 4095) HT_ ?_
          refine pu 12 8 (bm 13 8191) HT_ ?_
          refine done_ (done_of HT_.out (by kernel_rfl)) ?_
          have hnb31 := NB149_145.out
          have hnc31 := NB145_149.out
          have hnb32 := NB149_146.out
          have hnc32 := NB146_149.out
          have hnb33 := NB149_147.out
          have hnc33 := NB147_149.out
          obtain ⟨hcz34_0, hcz34_1, hfz34_0, hfz34_1⟩ := cz2 BK149
          try go_wp2_with (first | ((with_reducible refine gate_builtin (b := .append) (xs := #[.tmp 52, .tmp 54]) rfl ?_); at_builtin; refine Kd.R_append (Kd.int .i64) (w0 := w) w.heap.size rfl (.tmp 52) (.tmp 54) 35 3 (.int .i64 0) 8 rfl Tryz.underlying35 info3 rfl (by decide) (by omega) u150001 x150001_1 (wrap64 ((wrap64 ((wrap64 ((rd l1_1 x32_1) - t151)) - x6_1)) + 1000000)) [.int .i64 (wrap64 ((wrap64 ((wrap64 ((rd l1_1 x32_1) - t151)) - x6_1)) + 1000000))] (fun k_ => (w.heap.size ≤ k_)) (fun _ => False) rfl rfl ?aP (fun _ hk => hk.elim) ?aF ?aO ?aB ?aS ?aL ?_; (case aP => exact rfl); (case aB => exact (zb w)); (case aF => exact (fun k_ hk => (Nat.le_trans (below_size (zb w)) hk))); (case aO => exact (zo HO_150001)); (case aS => exact (below_size (zb w))); (case aL => have := LMc28.out; omega); intro v153 w35 ho hb hg hat; rw [← Ny152.out] at ho; replace BK145 := Aside0.mk (blk_grown (g := gb145) (o := .cells #[.bool a1_0, .slice (some ad150) l1_1.length c1_1] 84 (0, 0)) (zk BK145) hg (Kd.R_ne HO_150001.out BK145.out (by decide))); replace BK146 := Aside0.mk (blk_grown (g := gb146) (o := .cells #[.bool a0_0, .slice A0_1 l0_1.length c0_1] 84 (0, 0)) (zk BK146) hg (Kd.R_ne HO_150001.out BK146.out (by decide))); replace BK147 := Aside0.mk (blk_grown (g := gb147) (o := .cells #[.bool false, .slice none 0 0] 84 (0, 0)) (zk BK147) hg (Kd.R_ne HO_150001.out BK147.out (by decide))); replace BK149 := Aside0.mk (blk_grown (g := gb149) (o := .cells #[.bool a1_0, u150001] 84 (0, 0)) (zk BK149) hg (Kd.R_ne HO_150001.out BK149.out (by decide))); replace HB := Aside0.mk (hb); have HO154 := Aside0.mk (ho); clear HO_150001; clear ho hb hg hat; obtain ⟨Ao36, co36, eo36⟩ := Kd.R_slice HO154.out; subst eo36; obtain ⟨hcz37_0, hcz37_1, hfz37_0, hfz37_1⟩ := cz2 BK149))
          go_roundg k1
          case measure => have := HK1.out; omega
          case rel => exact ⟨(1), (wrap64 (x32_1 + 1)), (y152), (.slice Ao36 y152.length co36), ar, ar, H', ⟨by have := HK1.out; omega⟩, ⟨by (with_reducible repeat (first | apply Kd.R_alloc | apply Kd.R_drewN | apply Kd.R_drew)); exact Kd.R_mono (Kd.R_far (p := ⟨gb149, 1, none⟩) (Kd.R_types HO154.out BK149.out (by decide)) (fun _ hk => hk.2) (.slice Ao36 y152.length co36)) (fun _ hk => hk.1)⟩, ⟨by (with_reducible repeat (first | refine blk_drewN ?_ _ | refine blk_drew ?_ | refine blk_alloc ?_ _)); refine blk_far ?_ NB145_149.out _; exact zk BK145⟩, ⟨by (with_reducible repeat (first | refine blk_drewN ?_ _ | refine blk_drew ?_ | refine blk_alloc ?_ _)); refine blk_far ?_ NB146_149.out _; exact zk BK146⟩, ⟨by (with_reducible repeat (first | refine blk_drewN ?_ _ | refine blk_drew ?_ | refine blk_alloc ?_ _)); refine blk_far ?_ NB147_149.out _; exact zk BK147⟩, ⟨by (with_reducible repeat (first | refine blk_drewN ?_ _ | refine blk_drew ?_ | refine blk_alloc ?_ _)); refine blk_put (cs := #[.bool a1_0, u150001]) ?_ 1 _ rfl; exact zk BK149⟩, ⟨(zb w)⟩⟩
         ·rw [if_neg c28] at H
          exact absurd H (by simp)
        ·rw [if_neg c27] at H
         have c27b0 : decide ((wrap64 ((wrap64 ((rd l1_1 x32_1) - t151)) - x6_1)) < 0) = false := decide_eq_false c27
         clear c27
         by_cases c38 : x150001_1.length < 17592186044416
         ·rw [if_pos c38] at H
          have LMc38 := Aside0.mk c38
          clear c38
          obtain ⟨y155, hy155⟩ : ∃ y_ : List Int, y_ = (x150001_1 ++ [wrap64 ((wrap64 ((rd l1_1 x32_1) - t151)) - x6_1)]) := ⟨_, rfl⟩
          replace H : (interchangeref1_Plus_th.l0 k1 0 (l1_1.length : Int) (wrap64 (x32_1 + 1)) a1_0 l1_1 a0_0 l0_1 a1_0 y155) = some (r1, r2) := by first | (rw [hy155]; with_reducible exact H) | (have H2_ := (Option.bind_some _ _).symm.trans H; rw [hy155]; with_reducible exact H2_) | (have H2_ := (Option.bind_some _ _).symm.trans H; with_reducible exact H2_) | with_reducible exact H | (rw [hy155]; exact H) | exact H
          have Ny155 := Aside0.mk hy155
          clear hy155
          have H' := Aside0.mk H
          clear H
          try go_wp2
          have n0_ := Aside0.mk (Kd.R_drew HO_150001.out)
          have n1_ := Aside0.mk (blk_drew BK145.out)
          have n2_ := Aside0.mk (blk_drew BK146.out)
          have n3_ := Aside0.mk (blk_drew BK147.out)
          have n4_ := Aside0.mk (blk_drew BK149.out)
          have n5_ := Aside0.mk (below_drew1 HB.out)
          clear HO_150001
          clear BK145
          clear BK146
          clear BK147
          clear BK149
          clear HB
          have HO_150001 := n0_
          have BK145 := n1_
          have BK146 := n2_
          have BK147 := n3_
          have BK149 := n4_
          have HB := n5_
          clear n0_ n1_ n2_ n3_ n4_ n5_
          have p150 : 0 ≤ (x32_1 : Int) := of_decide_eq_true (by assumption)
          have q150 : x32_1 < (l1_1.length : Int) := of_decide_eq_true (by assumption)
          obtain ⟨ad150, e150, hx150_0⟩ := Kd.at_int HR1_1.out x32_1 p150 q150
          have hw150_0 := hx150_0
          cases e150
          replace hx150_0 := hz HB hx150_0
          replace p150 := eq_true p150
          replace q150 := eq_true q150
          refine start_ (n := 13) (S := fun w' => w'.cell? ⟨gb145, 0, none⟩ = some (.bool a1_0) ∧ w'.cell? ⟨gb145, 1, none⟩ = some (.slice (some ad150) l1_1.length c1_1) ∧ w'.cell? ⟨gb146, 0, none⟩ = some (.bool a0_0) ∧ w'.cell? ⟨gb146, 1, none⟩ = some (.slice A0_1 l0_1.length c0_1) ∧ w'.cell? (ad150.add (x32_1).toNat) = some (.int .i64 (rd l1_1 x32_1))) (ds := []) (bm 13 0) (by kernel_rfl) rfl rfl ⟨(blk_cell BK145.out 0).trans rfl, (blk_cell BK145.out 1).trans rfl, (blk_cell BK146.out 0).trans rfl, (blk_cell BK146.out 1).trans rfl, ((HB.out.cell (World.block_lt_of_cell? w _ hw150_0)).trans hw150_0)⟩ (fun hHeld => ?_); refine with_tabW interchangeref1_Plus_th.tab9 interchangeref1_Plus_th.bits9 (fun HT_ HW_ => ?_)
          generalize wr.drew = w39 at HO_150001 BK145 BK146 BK147 BK149 HB hx150_0 hHeld ⊢
          refine pu 0 35 (bm 13 1) HT_ ?_
          refine pu 2 37 (bm 13 5) HT_ ?_
          refine pu 5 40 (bm 13 37) HT_ ?_
          refine pu 7 42 (bm 13 165) HT_ ?_
          refine pu 10 45 (bm 13 1189) HT_ ?_
          refine ta5 1 36 (bm 13 1191) HT_ HW_ hHeld ?_
          refine pu 3 38 (bm 13 1199) HT_ ?_
          refine ta5 4 39 (bm 13 1215) HT_ HW_ hHeld ?_
          refine ta5 6 41 (bm 13 1279) HT_ HW_ hHeld ?_
          refine one_ (i := 8) (N := some 43) (bm 13 1535) rfl rfl (one_of HT_.out (by kernel_rfl)) (by decide) (fun K hK => ?_)
          refine gs Tryz.func120 #[.slice A0_1 l0_1.length c0_1, .int .i64 x32_1] ?_
          with_reducible refine (interchangeref1_digit.calls _ _ l0_1 x32_1 t151 _ (zc HR0_1) HC0_1.out A26.out).mono ?_
          rintro e w40 ⟨rfl, hb⟩
          refine ⟨_, rfl, ?_⟩
          have n0_ := rb HO_150001 hb
          have n1_ := bb BK145 hb
          have n2_ := bb BK146 hb
          have n3_ := bb BK147 hb
          have n4_ := bb BK149 hb
          have n5_ := hs w hb
          clear HO_150001
          clear BK145
          clear BK146
          clear BK147
          clear BK149
          clear HB
          have HO_150001 := n0_
          have BK145 := n1_
          have BK146 := n2_
          have BK147 := n3_
          have BK149 := n4_
          have HB := n5_
          clear n0_ n1_ n2_ n3_ n4_ n5_
          (try clear hb)
          (try clear hb2)
          (try clear hk)
          (try clear hi)
          refine hK.out _ _ ⟨(blk_cell BK145.out 0).trans rfl, (blk_cell BK145.out 1).trans rfl, (blk_cell BK146.out 0).trans rfl, (blk_cell BK146.out 1).trans rfl, ((HB.out.cell (World.block_lt_of_cell? w _ hw150_0)).trans hw150_0)⟩ (fun hHeld => ?_)
          clear hK K
          refine norm_ (a' := ?_) ?_ ?_
          rotate_left
          ·show Act.put _ (some 43) _ = _
           simp only [sq, i64_w, i32_w]
           rfl
          refine pu 9 44 (bm 13 2047) HT_ ?_
          refine pu 11 46 (bm 13 4095) HT_ ?_
          refine pu 12 8 (bm 13 8191) HT_ ?_
          refine done_ (done_of HT_.out (by kernel_rfl)) ?_
          have hnb41 := NB149_145.out
          have hnc41 := NB145_149.out
          have hnb42 := NB149_146.out
          have hnc42 := NB146_149.out
          have hnb43 := NB149_147.out
          have hnc43 := NB147_149.out
          obtain ⟨hcz44_0, hcz44_1, hfz44_0, hfz44_1⟩ := cz2 BK149
          try go_wp2_with (first | ((with_reducible refine gate_builtin (b := .append) (xs := #[.tmp 52, .tmp 54]) rfl ?_); at_builtin; refine Kd.R_append (Kd.int .i64) (w0 := w) w.heap.size rfl (.tmp 52) (.tmp 54) 35 3 (.int .i64 0) 8 rfl Tryz.underlying35 info3 rfl (by decide) (by omega) u150001 x150001_1 (wrap64 ((wrap64 ((rd l1_1 x32_1) - t151)) - x6_1)) [.int .i64 (wrap64 ((wrap64 ((rd l1_1 x32_1) - t151)) - x6_1))] (fun k_ => (w.heap.size ≤ k_)) (fun _ => False) rfl rfl ?aP (fun _ hk => hk.elim) ?aF ?aO ?aB ?aS ?aL ?_; (case aP => exact rfl); (case aB => exact (zb w)); (case aF => exact (fun k_ hk => (Nat.le_trans (below_size (zb w)) hk))); (case aO => exact (zo HO_150001)); (case aS => exact (below_size (zb w))); (case aL => have := LMc38.out; omega); intro v156 w45 ho hb hg hat; rw [← Ny155.out] at ho; replace BK145 := Aside0.mk (blk_grown (g := gb145) (o := .cells #[.bool a1_0, .slice (some ad150) l1_1.length c1_1] 84 (0, 0)) (zk BK145) hg (Kd.R_ne HO_150001.out BK145.out (by decide))); replace BK146 := Aside0.mk (blk_grown (g := gb146) (o := .cells #[.bool a0_0, .slice A0_1 l0_1.length c0_1] 84 (0, 0)) (zk BK146) hg (Kd.R_ne HO_150001.out BK146.out (by decide))); replace BK147 := Aside0.mk (blk_grown (g := gb147) (o := .cells #[.bool false, .slice none 0 0] 84 (0, 0)) (zk BK147) hg (Kd.R_ne HO_150001.out BK147.out (by decide))); replace BK149 := Aside0.mk (blk_grown (g := gb149) (o := .cells #[.bool a1_0, u150001] 84 (0, 0)) (zk BK149) hg (Kd.R_ne HO_150001.out BK149.out (by decide))); replace HB := Aside0.mk (hb); have HO157 := Aside0.mk (ho); clear HO_150001; clear ho hb hg hat; obtain ⟨Ao46, co46, eo46⟩ := Kd.R_slice HO157.out; subst eo46; obtain ⟨hcz47_0, hcz47_1, hfz47_0, hfz47_1⟩ := cz2 BK149))
          go_roundg k1
          case measure => have := HK1.out; omega
          case rel => exact ⟨(0), (wrap64 (x32_1 + 1)), (y155), (.slice Ao46 y155.length co46), ar, ar, H', ⟨by have := HK1.out; omega⟩, ⟨by (with_reducible repeat (first | apply Kd.R_alloc | apply Kd.R_drewN | apply Kd.R_drew)); exact Kd.R_mono (Kd.R_far (p := ⟨gb149, 1, none⟩) (Kd.R_types HO157.out BK149.out (by decide)) (fun _ hk => hk.2) (.slice Ao46 y155.length co46)) (fun _ hk => hk.1)⟩, ⟨by (with_reducible repeat (first | refine blk_drewN ?_ _ | refine blk_drew ?_ | refine blk_alloc ?_ _)); refine blk_far ?_ NB145_149.out _; exact zk BK145⟩, ⟨by (with_reducible repeat (first | refine blk_drewN ?_ _ | refine blk_drew ?_ | refine blk_alloc ?_ _)); refine blk_far ?_ NB146_149.out _; exact zk BK146⟩, ⟨by (with_reducible repeat (first | refine blk_drewN ?_ _ | refine blk_drew ?_ | refine blk_alloc ?_ _)); refine blk_far ?_ NB147_149.out _; exact zk BK147⟩, ⟨by (with_reducible repeat (first | refine blk_drewN ?_ _ | refine blk_drew ?_ | refine blk_alloc ?_ _)); refine blk_put (cs := #[.bool a1_0, u150001]) ?_ 1 _ rfl; exact zk BK149⟩, ⟨(zb w)⟩⟩
         ·rw [if_neg c38] at H
          exact absurd H (by simp)
       ·rw [if_neg c25] at H
        exact absurd H (by simp)
      ·rw [if_neg c24] at H
       exact absurd H (by simp)
     ·rw [if_neg c23] at H
      have c23b0 : decide (x32_1 < (l1_1.length : Int)) = false := decide_eq_false c23
      clear c23
      replace H := Option.bind_eq_some_iff.mp H
      obtain ⟨⟨t158, t159⟩, A480, H⟩ := H
      try dsimp only at H
      have A48 := Aside0.mk A480
      clear A480
      simp only [Option.some.injEq, Prod.mk.injEq] at H
      obtain ⟨rfl, rfl⟩ := H
      have hnb49 := NB149_145.out
      have hnc49 := NB145_149.out
      have hnb50 := NB149_146.out
      have hnc50 := NB146_149.out
      have hnb51 := NB149_147.out
      have hnc51 := NB147_149.out
      obtain ⟨hcz52_0, hcz52_1, hfz52_0, hfz52_1⟩ := cz2 BK149
      obtain ⟨Ao53, co53, eo53⟩ := Kd.R_slice HO_150001.out
      subst eo53
      go_wp2_with (first | ((with_reducible refine gC 121 rfl ?_); refine gl_ 59 Tryz.func121 #[.agg #[.bool a1_0, .slice Ao53 x150001_1.length co53]] ?_; (with_reducible refine (interchangeref1_trimmed.calls k1 a1_0 (fun k_ => some k_ = (.slice Ao53 x150001_1.length co53 : Value).ownBlock) _ _ x150001_1 t158 t159 _ ?side1 A48.out).mono ?_); (case side1 => exact Kd.R_V (Kd.R_tight rfl (Kd.R_types (Kd.R_types (Kd.R_types (Kd.R_types (HO_150001.out) BK145.out (by decide)) BK146.out (by decide)) BK147.out (by decide)) BK149.out (by decide)))); rintro e w54 ⟨v160, rfl, ho0, hb⟩; refine ⟨_, rfl, ?_⟩; have HO161 := Aside0.mk (Kd.V_lower (Kd.V_mono (ok' := fun k_ => (w.heap.size ≤ k_) ∧ k_ ≠ gb145 ∧ k_ ≠ gb146 ∧ k_ ≠ gb147 ∧ k_ ≠ gb149) ho0 (fun k_ hk_ => ⟨Or.elim hk_ (fun hs_ => ((Kd.R_types (Kd.R_types (Kd.R_types (Kd.R_types (HO_150001.out) BK145.out (by decide)) BK146.out (by decide)) BK147.out (by decide)) BK149.out (by decide)).1 k_ hs_.symm).1.1.1.1) (fun hn_ => (Nat.le_trans (below_size (zb w)) hn_)), Or.elim hk_ (fun hs_ => ((Kd.R_types (Kd.R_types (Kd.R_types (Kd.R_types (HO_150001.out) BK145.out (by decide)) BK146.out (by decide)) BK147.out (by decide)) BK149.out (by decide)).1 k_ hs_.symm).1.1.1.2) (fun hn_ => (Kd.freshB (g := gb145) (o := .cells #[.bool a1_0, .slice A1_1 l1_1.length c1_1] 84 (0, 0)) (zk BK145) k_ hn_)), Or.elim hk_ (fun hs_ => ((Kd.R_types (Kd.R_types (Kd.R_types (Kd.R_types (HO_150001.out) BK145.out (by decide)) BK146.out (by decide)) BK147.out (by decide)) BK149.out (by decide)).1 k_ hs_.symm).1.1.2) (fun hn_ => (Kd.freshB (g := gb146) (o := .cells #[.bool a0_0, .slice A0_1 l0_1.length c0_1] 84 (0, 0)) (zk BK146) k_ hn_)), Or.elim hk_ (fun hs_ => ((Kd.R_types (Kd.R_types (Kd.R_types (Kd.R_types (HO_150001.out) BK145.out (by decide)) BK146.out (by decide)) BK147.out (by decide)) BK149.out (by decide)).1 k_ hs_.symm).1.2) (fun hn_ => (Kd.freshB (g := gb147) (o := .cells #[.bool false, .slice none 0 0] 84 (0, 0)) (zk BK147) k_ hn_)), Or.elim hk_ (fun hs_ => ((Kd.R_types (Kd.R_types (Kd.R_types (Kd.R_types (HO_150001.out) BK145.out (by decide)) BK146.out (by decide)) BK147.out (by decide)) BK149.out (by decide)).1 k_ hs_.symm).2) (fun hn_ => (Kd.freshB (g := gb149) (o := .cells #[.bool a1_0, .slice Ao53 x150001_1.length co53] 84 (0, 0)) (zk BK149) k_ hn_))⟩)) (below_size (zb w))); replace HO_150001 := rb HO_150001 hb; replace BK145 := bb BK145 hb; replace BK146 := bb BK146 hb; replace BK147 := bb BK147 hb; replace BK149 := bb BK149 hb; replace HB := hs w hb; (try clear hb); (try clear ho0); have hnb55 := NB147_145.out; have hnc55 := NB145_147.out; have hnb56 := NB147_146.out; have hnc56 := NB146_147.out; obtain ⟨hcz57_0, hcz57_1, hfz57_0, hfz57_1⟩ := cz2 BK147; obtain ⟨Ao58, co58, eo58⟩ := Kd.V_slice HO161.out; subst eo58))
      refine bodyPost_ret (results_cell_row rfl _ _ gb147 84 #[.bool t158, .slice Ao58 t159.length co58] (0, 0) _ rfl (by (with_reducible repeat (first | refine blk_drewN ?_ _ | refine blk_drew ?_ | refine blk_alloc ?_ _)); refine blk_put (cs := #[.bool t158, .slice none 0 0]) ?_ 1 _ rfl; (with_reducible repeat (first | refine blk_drewN ?_ _ | refine blk_drew ?_ | refine blk_alloc ?_ _)); refine blk_put (cs := #[.bool false, .slice none 0 0]) ?_ 0 _ rfl; exact zk BK147) Tryz.underlying84 rfl (by kernel_rfl)) rfl ?_
      exact ⟨_, by first | rfl | (simp [errW_none, errW_some] <;> rfl) | (simp [*, errW_none, errW_some] <;> rfl), by (with_reducible repeat (first | apply Kd.V_alloc | apply Kd.V_drewN | apply Kd.V_drew)); exact Kd.V_mono (Kd.V_far (p := ⟨gb147, 1, none⟩) (Kd.V_far (p := ⟨gb147, 0, none⟩) (Kd.V_mono HO161.out (fun k_ hk => (⟨hk, hk.2.2.2.1⟩ : _ ∧ k_ ≠ gb147))) (fun _ hk => hk.2) (.bool t158)) (fun _ hk => hk.2) (.slice Ao58 t159.length co58)) (fun _ hk => hk.1.1), (zb w)⟩
  ·rw [if_neg c5] at H
   exact absurd H (by simp)
 ·rw [if_neg c3] at H
  exact absurd H (by simp)

def interchangeref1_Plus.f (k : Nat) (a0_0 : Bool) (l0_1 : List Int) (a1_0 : Bool) (l1_1 : List Int) : Option (Bool × List Int) := if (!(a0_0 == a1_0)) = true then ((interchangeref1_sizes.f k l0_1 l1_1).bind fun t => if t < 0 then interchangeref1_Plus_th.f k a0_0 l0_1 a1_0 l1_1 else interchangeref1_Plus_fo.f k a0_0 l0_1 a1_0 l1_1) else interchangeref1_Plus_fo.f k a0_0 l0_1 a1_0 l1_1
theorem interchangeref1_Plus.mono : ∀ a0 a1 a2 a3 k, LeO (interchangeref1_Plus.f k a0 a1 a2 a3) (interchangeref1_Plus.f (k + 1) a0 a1 a2 a3) := by
 intro a0 a1 a2 a3 k
 unfold interchangeref1_Plus.f
 refine LeO.ite (LeO.bind (interchangeref1_sizes.mono _ _ _) (fun _ => LeO.ite (interchangeref1_Plus_th.mono _ _ _ _ _) (interchangeref1_Plus_fo.mono _ _ _ _ _))) (interchangeref1_Plus_fo.mono _ _ _ _ _)
theorem interchangeref1_Plus.calls (k : Nat) (a0_0 : Bool) (A0_1 : Option Addr) (c0_1 : Nat) (l0_1 : List Int) (a1_0 : Bool) (A1_1 : Option Addr) (c1_1 : Nat) (l1_1 : List Int) (r1 : Bool) (r2 : List Int) (w : World) (hr0_1 : Kd.C (Kd.int .i64) w A0_1 l0_1.length l0_1) (hc0_1 : l0_1.length ≤ c0_1) (hr1_1 : Kd.C (Kd.int .i64) w A1_1 l1_1.length l1_1) (hc1_1 : l1_1.length ≤ c1_1) (h : interchangeref1_Plus.f k a0_0 l0_1 a1_0 l1_1 = some (r1, r2)) :
  Calls Tryz.prog 95 #[.agg #[.bool a0_0, .slice A0_1 l0_1.length c0_1], .agg #[.bool a1_0, .slice A1_1 l1_1.length c1_1]] w fun e w' => ∃ v1_ : Value, e = .returned (.agg #[.bool r1, v1_]) ∧ Kd.V (Kd.int .i64) 3 w' w.heap.size (fun k_ => (w.heap.size ≤ k_)) v1_ r2 ∧ Below w.heap.size w w' := by
 unfold interchangeref1_Plus.f at h
 split at h
 ·obtain ⟨t, _, h⟩ := Option.bind_eq_some_iff.mp h
  split at h
  ·exact interchangeref1_Plus_th.calls k a0_0 A0_1 c0_1 l0_1 a1_0 A1_1 c1_1 l1_1 r1 r2 w hr0_1 hc0_1 hr1_1 hc1_1 h
  ·exact interchangeref1_Plus_fo.calls k a0_0 A0_1 c0_1 l0_1 a1_0 A1_1 c1_1 l1_1 r1 r2 w hr0_1 hc0_1 hr1_1 hc1_1 h
 ·exact interchangeref1_Plus_fo.calls k a0_0 A0_1 c0_1 l0_1 a1_0 A1_1 c1_1 l1_1 r1 r2 w hr0_1 hc0_1 hr1_1 hc1_1 h

end Go.Proofs.YthgefhnolmloiaaGreatDoor.P3
