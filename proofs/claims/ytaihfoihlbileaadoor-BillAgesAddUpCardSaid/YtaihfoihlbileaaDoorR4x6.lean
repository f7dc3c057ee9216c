-- Made by a program of this session out of the translation (wip/pp.py): functions, contracts.
import Derived.Test.YtaihfoihlbileaaDoorR4x0
import Derived.Test.YtaihfoihlbileaaDoorR4x4
import Derived.Test.YtaihfoihlbileaaDoorR4x5
namespace Go.Proofs.YtaihfoihlbileaaDoor.R4
open Go.RowKit Go.Proofs.YtaihfoihlbileaaDoorW.PrintWords Go.Proofs.YtaihfoihlbileaaDoorW.PrintLast Go.Proofs.YtaihfoihlbileaaDoorW.PrintMore
attribute [local go_sem] max2_int min2_int max_two min_two max_three min_three max_four min_four   -- for this text's walks alone
set_option linter.unusedVariables false
set_option linter.unusedSimpArgs false

/-! ### interchangeref1_Plus_fo: function 17 -/
mutual
def interchangeref1_Plus_fo.l0 : Nat → Int → Int → Int → Bool → List Int → Bool → List Int → Bool → List Int → Option (Bool × List Int)
 | 0, _, _, _, _, _, _, _, _, _ => none
 | k + 1, x6, x31, x32, x271000, x271001, x272000, x272001, x275000, x275001 => if x32 < x31 then (if 0 ≤ x32 then (if x32 < (x271001.length : Int) then ((interchangeref1_digit.f x272001 x32).bind fun t276 => (if (wrap64 ((wrap64 ((rd x271001 x32) - t276)) - x6)) < 0 then (if x275001.length < 17592186044416 then (interchangeref1_Plus_fo.l0 k 1 x31 (wrap64 (x32 + 1)) x271000 x271001 x272000 x272001 x275000 (x275001 ++ [wrap64 ((wrap64 ((wrap64 ((rd x271001 x32) - t276)) - x6)) + 1000000)])) else (none)) else (if x275001.length < 17592186044416 then (interchangeref1_Plus_fo.l0 k 0 x31 (wrap64 (x32 + 1)) x271000 x271001 x272000 x272001 x275000 (x275001 ++ [wrap64 ((wrap64 ((rd x271001 x32) - t276)) - x6)])) else (none)))) else (none)) else (none)) else ((interchangeref1_trimmed.f k x275000 x275001).bind fun bt283 => (some (bt283.1, bt283.2)))
def interchangeref1_Plus_fo.l1 : Nat → Int → Int → Int → Bool → List Int → Bool → List Int → Bool → List Int → Option (Bool × List Int)
 | 0, _, _, _, _, _, _, _, _, _ => none
 | k + 1, x10, x70, x71, x271000, x271001, x272000, x272001, x288000, x288001 => if x71 < x70 then ((interchangeref1_digit.f x271001 x71).bind fun t288 => ((interchangeref1_digit.f x272001 x71).bind fun t289 => (if x288001.length < 17592186044416 then (interchangeref1_Plus_fo.l1 k (wrap64 (Int.tdiv (wrap64 ((wrap64 (t288 + t289)) + x10)) 1000000)) x70 (wrap64 (x71 + 1)) x271000 x271001 x272000 x272001 x288000 (x288001 ++ [Int.tmod (wrap64 ((wrap64 (t288 + t289)) + x10)) 1000000])) else (none)))) else ((interchangeref1_trimmed.f k x288000 x288001).bind fun bt293 => (some (bt293.1, bt293.2)))
end
def interchangeref1_Plus_fo.f (k : Nat) (a0_0 : Bool) (l0_1 : List Int) (a1_0 : Bool) (l1_1 : List Int) : Option (Bool × List Int) := if (!(a0_0 == a1_0)) = true then ((interchangeref1_sizes.f k l0_1 l1_1).bind fun t273 => (if t273 < 0 then (none) else (interchangeref1_Plus_fo.l0 k 0 (l0_1.length : Int) 0 a0_0 l0_1 a1_0 l1_1 a0_0 ([] : List Int)))) else (if (l0_1.length : Int) < (l1_1.length : Int) then (interchangeref1_Plus_fo.l1 k 0 (wrap64 ((l1_1.length : Int) + 1)) 0 a0_0 l0_1 a1_0 l1_1 a0_0 ([] : List Int)) else (interchangeref1_Plus_fo.l1 k 0 (wrap64 ((l0_1.length : Int) + 1)) 0 a0_0 l0_1 a1_0 l1_1 a0_0 ([] : List Int)))
theorem interchangeref1_Plus_fo.mono_l : ∀ k, (∀ y0 y1 y2 y3 y4 y5 y6 y7 y8, LeO (interchangeref1_Plus_fo.l0 k y0 y1 y2 y3 y4 y5 y6 y7 y8) (interchangeref1_Plus_fo.l0 (k + 1) y0 y1 y2 y3 y4 y5 y6 y7 y8)) ∧ (∀ y0 y1 y2 y3 y4 y5 y6 y7 y8, LeO (interchangeref1_Plus_fo.l1 k y0 y1 y2 y3 y4 y5 y6 y7 y8) (interchangeref1_Plus_fo.l1 (k + 1) y0 y1 y2 y3 y4 y5 y6 y7 y8))
 | 0 => ⟨fun _ _ _ _ _ _ _ _ _ r h => by simp [interchangeref1_Plus_fo.l0] at h, fun _ _ _ _ _ _ _ _ _ r h => by simp [interchangeref1_Plus_fo.l1] at h⟩
 | k + 1 => by
  obtain ⟨ih0, ih1⟩ := interchangeref1_Plus_fo.mono_l k
  refine ⟨?_, ?_⟩
  ·intro y0 y1 y2 y3 y4 y5 y6 y7 y8
   unfold interchangeref1_Plus_fo.l0
   repeat' first | with_reducible first | exact ih0 _ _ _ _ _ _ _ _ _ | exact ih1 _ _ _ _ _ _ _ _ _ | exact interchangeref1_sizes.mono _ _ _ | exact interchangeref1_trimmed.mono _ _ _ | exact lr _ | exact ln _ | refine li ?_ ?_ | refine lb ?_ fun _ => ?_ | exact ih0 _ _ _ _ _ _ _ _ _ | exact ih1 _ _ _ _ _ _ _ _ _ | exact interchangeref1_sizes.mono _ _ _ | exact interchangeref1_trimmed.mono _ _ _ | exact ln _ | refine li ?_ ?_ | refine lb ?_ fun _ => ?_
  ·intro y0 y1 y2 y3 y4 y5 y6 y7 y8
   unfold interchangeref1_Plus_fo.l1
   repeat' first | with_reducible first | exact ih0 _ _ _ _ _ _ _ _ _ | exact ih1 _ _ _ _ _ _ _ _ _ | exact interchangeref1_sizes.mono _ _ _ | exact interchangeref1_trimmed.mono _ _ _ | exact lr _ | exact ln _ | refine li ?_ ?_ | refine lb ?_ fun _ => ?_ | exact ih0 _ _ _ _ _ _ _ _ _ | exact ih1 _ _ _ _ _ _ _ _ _ | exact interchangeref1_sizes.mono _ _ _ | exact interchangeref1_trimmed.mono _ _ _ | exact ln _ | refine li ?_ ?_ | refine lb ?_ fun _ => ?_
theorem interchangeref1_Plus_fo.mono : ∀ a0 a1 a2 a3 k, LeO (interchangeref1_Plus_fo.f k a0 a1 a2 a3) (interchangeref1_Plus_fo.f (k + 1) a0 a1 a2 a3) := by
 intro a0 a1 a2 a3 k
 obtain ⟨ih0, ih1⟩ := interchangeref1_Plus_fo.mono_l k
 unfold interchangeref1_Plus_fo.f
 repeat' first | with_reducible first | exact ih0 _ _ _ _ _ _ _ _ _ | exact ih1 _ _ _ _ _ _ _ _ _ | exact interchangeref1_sizes.mono _ _ _ | exact interchangeref1_trimmed.mono _ _ _ | exact lr _ | exact ln _ | refine li ?_ ?_ | refine lb ?_ fun _ => ?_ | exact ih0 _ _ _ _ _ _ _ _ _ | exact ih1 _ _ _ _ _ _ _ _ _ | exact interchangeref1_sizes.mono _ _ _ | exact interchangeref1_trimmed.mono _ _ _ | exact ln _ | refine li ?_ ?_ | refine lb ?_ fun _ => ?_
def interchangeref1_Plus_fo.T9 : Bool × List (List Nat × List Nat) := (true, [([], []), ([0], [0]), ([], []), ([1, 2], [1, 2]), ([3], [3]), ([], []), ([5], [5]), ([], []), ([6, 7], [6, 7]), ([4, 8], [4, 8]), ([], []), ([9, 10], [9, 10]), ([11, 8, 0, 1, 2, 3, 4, 5, 6, 7, 8, 9, 10, 11], [11])])
def interchangeref1_Plus_fo.B9 : List Nat := [0, 1, 0, 7, 15, 0, 32, 0, 224, 511, 0, 2047, 4095]
theorem interchangeref1_Plus_fo.tab9 : rtab .any (opsOf Tryd.f17 9) = interchangeref1_Plus_fo.T9 := by kernel_rfl
theorem interchangeref1_Plus_fo.bits9 : waitsOk interchangeref1_Plus_fo.T9.2 interchangeref1_Plus_fo.B9 = true := by kernel_rfl
def interchangeref1_Plus_fo.T21 : Bool × List (List Nat × List Nat) := (true, [([], []), ([0], [0]), ([], []), ([1, 2], [1, 2]), ([], []), ([4], [4]), ([], []), ([5, 6, 3], [5, 6]), ([3, 7], [3, 7]), ([], []), ([8, 9], [8, 9]), ([10, 7, 0, 1, 2, 3, 4, 5, 6, 7, 8, 9, 10], [10])])
def interchangeref1_Plus_fo.B21 : List Nat := [0, 1, 0, 7, 0, 16, 0, 127, 255, 0, 1023, 2047]
theorem interchangeref1_Plus_fo.tab21 : rtab .any (opsOf Tryd.f17 21) = interchangeref1_Plus_fo.T21 := by kernel_rfl
theorem interchangeref1_Plus_fo.bits21 : waitsOk interchangeref1_Plus_fo.T21.2 interchangeref1_Plus_fo.B21 = true := by kernel_rfl
set_option maxHeartbeats 8000000 in
set_option maxRecDepth 100000 in
theorem interchangeref1_Plus_fo.calls (k : Nat) (a0_0 : Bool) (A0_1 : Option Addr) (c0_1 : Nat) (l0_1 : List Int) (a1_0 : Bool) (A1_1 : Option Addr) (c1_1 : Nat) (l1_1 : List Int) (r1 : Bool) (r2 : List Int) (w : World) (hr0_1 : Kd.C (Kd.int .i64) w A0_1 l0_1.length l0_1) (hc0_1 : l0_1.length ≤ c0_1) (hr1_1 : Kd.C (Kd.int .i64) w A1_1 l1_1.length l1_1) (hc1_1 : l1_1.length ≤ c1_1) (h : interchangeref1_Plus_fo.f k a0_0 l0_1 a1_0 l1_1 = some (r1, r2)) :
  Calls Tryd.prog 17 #[.agg #[.bool a0_0, .slice A0_1 l0_1.length c0_1], .agg #[.bool a1_0, .slice A1_1 l1_1.length c1_1]] w fun e w' => ∃ v1_ : Value, e = .returned (.agg #[.bool r1, v1_]) ∧ Kd.V (Kd.int .i64) 3 w' w.heap.size (fun k_ => (w.heap.size ≤ k_)) v1_ r2 ∧ Below w.heap.size w w' := by
 have hu40 := Tryd.underlying40
 have HR0_1 := Aside0.mk hr0_1
 have HC0_1 := Aside0.mk hc0_1
 clear hr0_1 hc0_1
 have HR1_1 := Aside0.mk hr1_1
 have HC1_1 := Aside0.mk hc1_1
 clear hr1_1 hc1_1
 have HB := Aside0.mk (Below.refl w.heap.size w)
 have H := h
 unfold interchangeref1_Plus_fo.f at H
 clear h
 by_cases c3 : (!(a0_0 == a1_0)) = true
 ·rw [if_pos c3] at H
  have c3b0 : (!(a0_0 == a1_0)) = true := c3
  clear c3
  replace H := Option.bind_eq_some_iff.mp H
  obtain ⟨t273, A40, H⟩ := H
  try dsimp only at H
  have A4 := Aside0.mk A40
  clear A40
  by_cases c5 : t273 < 0
  ·rw [if_pos c5] at H
   exact absurd H (by simp)
  ·rw [if_neg c5] at H
   have c5b0 : decide (t273 < 0) = false := decide_eq_false c5
   clear c5
   have H' := Aside0.mk H
   clear H
   go_enter Tryd.func17, Tryd.ntmps17
   go_wp2_with (first | ((with_reducible refine gD 2 rfl ?_); refine bx w 2 #[.bool a0_0, .slice A0_1 l0_1.length c0_1] 40 ?_; intro gb270 hg w6 hb BK270 GW270 GE270; clear HB; intro HB; clear hb hg) | ((with_reducible refine gD 3 rfl ?_); refine bx w 3 #[.bool a1_0, .slice A1_1 l1_1.length c1_1] 40 ?_; intro gb271 hg w7 hb BK271 GW271 GE271; clear HB; intro HB; have NB270_271 := nbl BK270 hg; have NB271_270 := nbr BK270 hg; replace BK270 := bb BK270 hb; clear hb hg) | ((with_reducible refine gD 4 rfl ?_); refine bx w 4 #[.bool false, .slice none 0 0] 40 ?_; intro gb272 hg w8 hb BK272 GW272 GE272; clear HB; intro HB; have NB270_272 := nbl BK270 hg; have NB272_270 := nbr BK270 hg; replace BK270 := bb BK270 hb; have NB271_272 := nbl BK271 hg; have NB272_271 := nbr BK271 hg; replace BK271 := bb BK271 hb; clear hb hg; have hnb9 := NB270_271.out; have hnc9 := NB271_270.out; have hnb10 := NB270_272.out; have hnc10 := NB272_270.out; obtain ⟨hcz11_0, hcz11_1, hfz11_0, hfz11_1⟩ := cz2 BK270; have hnb12 := NB271_272.out; have hnc12 := NB272_271.out; obtain ⟨hcz13_0, hcz13_1, hfz13_0, hfz13_1⟩ := cz2 BK271) | ((with_reducible refine gC 33 rfl ?_); refine gl_ 22 Tryd.func33 #[.slice A0_1 l0_1.length c0_1, .slice A1_1 l1_1.length c1_1] ?_; (with_reducible refine (interchangeref1_sizes.calls k _ _ l0_1 _ _ l1_1 t273 _ (zc HR0_1) HC0_1.out (zc HR1_1) HC1_1.out A4.out).mono ?_); rintro e w14 ⟨rfl, hb⟩; refine ⟨_, rfl, ?_⟩; replace BK270 := bb BK270 hb; replace BK271 := bb BK271 hb; replace BK272 := bb BK272 hb; replace HB := hs w hb; (try clear hb); obtain ⟨hcz15_0, hcz15_1, hfz15_0, hfz15_1⟩ := cz2 BK270) | ((with_reducible refine gD 5 rfl ?_); refine bx w 5 #[.bool false, .slice none 0 0] 40 ?_; intro gb274 hg w16 hb BK274 GW274 GE274; clear HB; intro HB; have NB270_274 := nbl BK270 hg; have NB274_270 := nbr BK270 hg; replace BK270 := bb BK270 hb; have NB271_274 := nbl BK271 hg; have NB274_271 := nbr BK271 hg; replace BK271 := bb BK271 hb; have NB272_274 := nbl BK272 hg; have NB274_272 := nbr BK272 hg; replace BK272 := bb BK272 hb; clear hb hg; have hnb17 := NB274_270.out; have hnc17 := NB270_274.out; have hnb18 := NB274_271.out; have hnc18 := NB271_274.out; have hnb19 := NB274_272.out; have hnc19 := NB272_274.out; obtain ⟨hcz20_0, hcz20_1, hfz20_0, hfz20_1⟩ := cz2 BK274; obtain ⟨hcz21_0, hcz21_1, hfz21_0, hfz21_1⟩ := cz2 BK270))
   try simp only [sq]
   go_loopg [6, 32] k (fun kq v6 v32 w' => ∃ (x6_1 : Int) (x32_1 : Int) (x275001_1 : List Int) (u275001 : Value), v6 = .int .i64 x6_1 ∧ v32 = .int .i64 x32_1 ∧ Aside0 (interchangeref1_Plus_fo.l0 kq x6_1 (l0_1.length : Int) x32_1 a0_0 l0_1 a1_0 l1_1 a0_0 x275001_1 = some (r1, r2)) ∧ Aside0 (kq ≤ k) ∧ Aside0 (Kd.R (Kd.int .i64) 3 w' w.heap.size (fun k_ => (w.heap.size ≤ k_)) u275001 x275001_1) ∧ Aside0 (w'.heap[gb270]? = some (.cells #[.bool a0_0, (.slice A0_1 l0_1.length c0_1)] 40 (0, 0))) ∧ Aside0 (w'.heap[gb271]? = some (.cells #[.bool a1_0, (.slice A1_1 l1_1.length c1_1)] 40 (0, 0))) ∧ Aside0 (w'.heap[gb272]? = some (.cells #[.bool false, (.slice none 0 0)] 40 (0, 0))) ∧ Aside0 (w'.heap[gb274]? = some (.cells #[.bool a0_0, u275001] 40 (0, 0))) ∧ Aside0 (Below w.heap.size w w'))
   case atStart => exact ⟨(0), (0), (([] : List Int)), (.slice none 0 0), ar, ar, H', ⟨Nat.le_refl _⟩, ⟨by first | exact Kd.R_nil _ _ _ _ _ | exact Kd.N_nil _ _ _ _ _ | exact Kd.V_nil _ _ _ _ _ | exact Kd.Q_nil _ _ _ _ _ | exact Kd.S_nil _ _ _ _ _⟩, ⟨by (with_reducible repeat (first | refine blk_drewN ?_ _ | refine blk_drew ?_ | refine blk_alloc ?_ _)); refine blk_far ?_ NB270_274.out _; (with_reducible repeat (first | refine blk_drewN ?_ _ | refine blk_drew ?_ | refine blk_alloc ?_ _)); refine blk_far ?_ NB270_274.out _; exact zk BK270⟩, ⟨by (with_reducible repeat (first | refine blk_drewN ?_ _ | refine blk_drew ?_ | refine blk_alloc ?_ _)); refine blk_far ?_ NB271_274.out _; (with_reducible repeat (first | refine blk_drewN ?_ _ | refine blk_drew ?_ | refine blk_alloc ?_ _)); refine blk_far ?_ NB271_274.out _; exact zk BK271⟩, ⟨by (with_reducible repeat (first | refine blk_drewN ?_ _ | refine blk_drew ?_ | refine blk_alloc ?_ _)); refine blk_far ?_ NB272_274.out _; (with_reducible repeat (first | refine blk_drewN ?_ _ | refine blk_drew ?_ | refine blk_alloc ?_ _)); refine blk_far ?_ NB272_274.out _; exact zk BK272⟩, ⟨by (with_reducible repeat (first | refine blk_drewN ?_ _ | refine blk_drew ?_ | refine blk_alloc ?_ _)); refine blk_put (cs := #[.bool a0_0, .slice none 0 0]) ?_ 1 _ rfl; (with_reducible repeat (first | refine blk_drewN ?_ _ | refine blk_drew ?_ | refine blk_alloc ?_ _)); refine blk_put (cs := #[.bool false, .slice none 0 0]) ?_ 0 _ rfl; exact zk BK274⟩, ⟨(zb w)⟩⟩
   case round =>
    clear H'
    try clear c1
    try clear p2
    try clear c3
    try clear c3b0
    try clear c5
    try clear c5b0
    try clear p6
    try clear c9
    try clear c10
    try clear c12
    try clear c17
    try clear c18
    try clear c19
    try clear hcz11_0 hcz11_1
    try clear hcz13_0 hcz13_1
    try clear hcz15_0 hcz15_1
    try clear hcz20_0 hcz20_1
    try clear hcz21_0 hcz21_1
    try clear hfz11_0 hfz11_1
    try clear hfz13_0 hfz13_1
    try clear hfz15_0 hfz15_1
    try clear hfz20_0 hfz20_1
    try clear hfz21_0 hfz21_1
    obtain ⟨x6_1, x32_1, x275001_1, u275001, rfl, rfl, HA, HK1, HO_275001, BK270, BK271, BK272, BK274, HB⟩ := hrel
    cases gk with
    | zero => exact absurd HA.out (by simp [interchangeref1_Plus_fo.l0])
    | succ k1 =>
     have H := HA.out
     clear HA
     simp only [interchangeref1_Plus_fo.l0] at H
     by_cases c22 : x32_1 < (l0_1.length : Int)
     ·rw [if_pos c22] at H
      have c22b0 : decide (x32_1 < (l0_1.length : Int)) = true := decide_eq_true c22
      clear c22
      by_cases c23 : 0 ≤ x32_1
      ·rw [if_pos c23] at H
       have c23b0 : decide (0 ≤ x32_1) = true := decide_eq_true c23
       clear c23
       by_cases c24 : x32_1 < (l0_1.length : Int)
       ·rw [if_pos c24] at H
        have c24b0 : decide (x32_1 < (l0_1.length : Int)) = true := decide_eq_true c24
        clear c24
        replace H := Option.bind_eq_some_iff.mp H
        obtain ⟨t276, A250, H⟩ := H
        try dsimp only at H
        have A25 := Aside0.mk A250
        clear A250
        by_cases c26 : (wrap64 ((wrap64 ((rd l0_1 x32_1) - t276)) - x6_1)) < 0
        ·rw [if_pos c26] at H
         have c26b0 : decide ((wrap64 ((wrap64 ((rd l0_1 x32_1) - t276)) - x6_1)) < 0) = true := decide_eq_true c26
         clear c26
         by_cases c27 : x275001_1.length < 17592186044416
         ·rw [if_pos c27] at H
          have LMc27 := Aside0.mk c27
          clear c27
          obtain ⟨y277, hy277⟩ : ∃ y_ : List Int, y_ = (x275001_1 ++ [wrap64 ((wrap64 ((wrap64 ((rd l0_1 x32_1) - t276)) - x6_1)) + 1000000)]) := ⟨_, rfl⟩
          replace H : (interchangeref1_Plus_fo.l0 k1 1 (l0_1.length : Int) (wrap64 (x32_1 + 1)) a0_0 l0_1 a1_0 l1_1 a0_0 y277) = some (r1, r2) := by first | (rw [hy277]; with_reducible exact H) | (have H2_ := (Option.bind_some _ _).symm.trans H; rw [hy277]; with_reducible exact H2_) | (have H2_ := (Option.bind_some _ _).symm.trans H; with_reducible exact H2_) | with_reducible exact H | (rw [hy277]; exact H) | exact H
          have Ny277 := Aside0.mk hy277
          clear hy277
          have H' := Aside0.mk H
          clear H
          try go_wp2
          have n0_ := Aside0.mk (Kd.R_drew HO_275001.out)
          have n1_ := Aside0.mk (blk_drew BK270.out)
          have n2_ := Aside0.mk (blk_drew BK271.out)
          have n3_ := Aside0.mk (blk_drew BK272.out)
          have n4_ := Aside0.mk (blk_drew BK274.out)
          have n5_ := Aside0.mk (below_drew1 HB.out)
          clear HO_275001
          clear BK270
          clear BK271
          clear BK272
          clear BK274
          clear HB
          have HO_275001 := n0_
          have BK270 := n1_
          have BK271 := n2_
          have BK272 := n3_
          have BK274 := n4_
          have HB := n5_
          clear n0_ n1_ n2_ n3_ n4_ n5_
          have p275 : 0 ≤ (x32_1 : Int) := of_decide_eq_true (by assumption)
          have q275 : x32_1 < (l0_1.length : Int) := of_decide_eq_true (by assumption)
          obtain ⟨ad275, e275, hx275_0⟩ := Kd.at_int HR0_1.out x32_1 p275 q275
          have hw275_0 := hx275_0
          cases e275
          replace hx275_0 := hz HB hx275_0
          replace p275 := eq_true p275
          replace q275 := eq_true q275
          refine start_ (n := 13) (S := fun w' => w'.cell? ⟨gb270, 0, none⟩ = some (.bool a0_0) ∧ w'.cell? ⟨gb270, 1, none⟩ = some (.slice (some ad275) l0_1.length c0_1) ∧ w'.cell? ⟨gb271, 0, none⟩ = some (.bool a1_0) ∧ w'.cell? ⟨gb271, 1, none⟩ = some (.slice A1_1 l1_1.length c1_1) ∧ w'.cell? (ad275.add (x32_1).toNat) = some (.int .i64 (rd l0_1 x32_1))) (ds := []) (bm 13 0) (by kernel_rfl) rfl rfl ⟨(blk_cell BK270.out 0).trans rfl, (blk_cell BK270.out 1).trans rfl, (blk_cell BK271.out 0).trans rfl, (blk_cell BK271.out 1).trans rfl, ((HB.out.cell (World.block_lt_of_cell? w _ hw275_0)).trans hw275_0)⟩ (fun hHeld => ?_); refine with_tabW interchangeref1_Plus_fo.tab9 interchangeref1_Plus_fo.bits9 (fun HT_ HW_ => ?_)
          generalize wr.drew = w28 at HO_275001 BK270 BK271 BK272 BK274 HB hx275_0 hHeld ⊢
          refine pu 0 35 (bm 13 1) HT_ ?_
          refine pu 2 37 (bm 13 5) HT_ ?_
          refine pu 5 40 (bm 13 37) HT_ ?_
          refine pu 7 42 (bm 13 165) HT_ ?_
          refine pu 10 45 (bm 13 1189) HT_ ?_
          refine ta5 1 36 (bm 13 1191) HT_ HW_ hHeld ?_
          refine pu 3 38 (bm 13 1199) HT_ ?_
          refine ta5 4 39 (bm 13 1215) HT_ HW_ hHeld ?_
          refine ta5 6 41 (bm 13 1279) HT_ HW_ hHeld ?_
          refine one_ (i := 8) (N := some 43) (bm 13 1535) rfl rfl (one_of HT_.out (by kernel_rfl)) (by decide) (fun K hK => ?_)
          refine gs Tryd.func34 #[.slice A1_1 l1_1.length c1_1, .int .i64 x32_1] ?_
          with_reducible refine (interchangeref1_digit.calls _ _ l1_1 x32_1 t276 _ (zc HR1_1) HC1_1.out A25.out).mono ?_
          rintro e w29 ⟨rfl, hb⟩
          refine ⟨_, rfl, ?_⟩
          have n0_ := rb HO_275001 hb
          have n1_ := bb BK270 hb
          have n2_ := bb BK271 hb
          have n3_ := bb BK272 hb
          have n4_ := bb BK274 hb
          have n5_ := hs w hb
          clear HO_275001
          clear BK270
          clear BK271
          clear BK272
          clear BK274
          clear HB
          have HO_275001 := n0_
          have BK270 := n1_
          have BK271 := n2_
          have BK272 := n3_
          have BK274 := n4_
          have HB := n5_
          clear n0_ n1_ n2_ n3_ n4_ n5_
          (try clear hb)
          (try clear hb2)
          (try clear hk)
          (try clear hi)
          refine hK.out _ _ ⟨(blk_cell BK270.out 0).trans rfl, (blk_cell BK270.out 1).trans rfl, (blk_cell BK271.out 0).trans rfl, (blk_cell BK271.out 1).trans rfl, ((HB.out.cell (World.block_lt_of_cell? w _ hw275_0)).trans hw275_0)⟩ (fun hHeld => ?_)
          clear hK K
          refine norm_ (a' := ?_) ?_ ?_
          rotate_left
          ·show Act.put _ (some 43) _ = _
           simp only [sq, i64_w, i32_w]
           rfl
          refine pu 9 44 (bm 13 2047) HT_ ?_
          refine pu 11 46 (bm 13 4095) HT_ ?_
          refine pu 12 8 (bm 13 8191) HT_ ?_
          refine done_ (done_of HT_.out (by kernel_rfl)) ?_
          have hnb30 := NB274_270.out
          have hnc30 := NB270_274.out
          have hnb31 := NB274_271.out
          have hnc31 := NB271_274.out
          have hnb32 := NB274_272.out
          have hnc32 := NB272_274.out
          obtain ⟨hcz33_0, hcz33_1, hfz33_0, hfz33_1⟩ := cz2 BK274
          try go_wp2_with (first | ((with_reducible refine gate_builtin (b := .append) (xs := #[.tmp 52, .tmp 54]) rfl ?_); at_builtin; refine Kd.R_append (Kd.int .i64) (w0 := w) w.heap.size rfl (.tmp 52) (.tmp 54) 38 3 (.int .i64 0) 8 rfl Tryd.underlying38 info3 rfl (by decide) (by omega) u275001 x275001_1 (wrap64 ((wrap64 ((wrap64 ((rd l0_1 x32_1) - t276)) - x6_1)) + 1000000)) [.int .i64 (wrap64 ((wrap64 ((wrap64 ((rd l0_1 x32_1) - t276)) - x6_1)) + 1000000))] (fun k_ => (w.heap.size ≤ k_)) (fun _ => False) rfl rfl ?aP (fun _ hk => hk.elim) ?aF ?aO ?aB ?aS ?aL ?_; (case aP => exact rfl); (case aB => exact (zb w)); (case aF => exact (fun k_ hk => (Nat.le_trans (below_size (zb w)) hk))); (case aO => exact (zo HO_275001)); (case aS => exact (below_size (zb w))); (case aL => have := LMc27.out; omega); intro v278 w34 ho hb hg hat; rw [← Ny277.out] at ho; replace BK270 := Aside0.mk (blk_grown (g := gb270) (o := .cells #[.bool a0_0, .slice (some ad275) l0_1.length c0_1] 40 (0, 0)) (zk BK270) hg (Kd.R_ne HO_275001.out BK270.out (by decide))); replace BK271 := Aside0.mk (blk_grown (g := gb271) (o := .cells #[.bool a1_0, .slice A1_1 l1_1.length c1_1] 40 (0, 0)) (zk BK271) hg (Kd.R_ne HO_275001.out BK271.out (by decide))); replace BK272 := Aside0.mk (blk_grown (g := gb272) (o := .cells #[.bool false, .slice none 0 0] 40 (0, 0)) (zk BK272) hg (Kd.R_ne HO_275001.out BK272.out (by decide))); replace BK274 := Aside0.mk (blk_grown (g := gb274) (o := .cells #[.bool a0_0, u275001] 40 (0, 0)) (zk BK274) hg (Kd.R_ne HO_275001.out BK274.out (by decide))); replace HB := Aside0.mk (hb); have HO279 := Aside0.mk (ho); clear HO_275001; clear ho hb hg hat; obtain ⟨Ao35, co35, eo35⟩ := Kd.R_slice HO279.out; subst eo35; obtain ⟨hcz36_0, hcz36_1, hfz36_0, hfz36_1⟩ := cz2 BK274))
          go_roundg k1
          case measure => have := HK1.out; omega
          case rel => exact ⟨(1), (wrap64 (x32_1 + 1)), (y277), (.slice Ao35 y277.length co35), ar, ar, H', ⟨by have := HK1.out; omega⟩, ⟨by (with_reducible repeat (first | apply Kd.R_alloc | apply Kd.R_drewN | apply Kd.R_drew)); exact Kd.R_mono (Kd.R_far (p := ⟨gb274, 1, none⟩) (Kd.R_types HO279.out BK274.out (by decide)) (fun _ hk => hk.2) (.slice Ao35 y277.length co35)) (fun _ hk => hk.1)⟩, ⟨by (with_reducible repeat (first | refine blk_drewN ?_ _ | refine blk_drew ?_ | refine blk_alloc ?_ _)); refine blk_far ?_ NB270_274.out _; exact zk BK270⟩, ⟨by (with_reducible repeat (first | refine blk_drewN ?_ _ | refine blk_drew ?_ | refine blk_alloc ?_ _)); refine blk_far ?_ NB271_274.out _; exact zk BK271⟩, ⟨by (with_reducible repeat (first | refine blk_drewN ?_ _ | refine blk_drew ?_ | refine blk_alloc ?_ _)); refine blk_far ?_ NB272_274.out _; exact zk BK272⟩, ⟨by (with_reducible repeat (first | refine blk_drewN ?_ _ | refine blk_drew ?_ | refine blk_alloc ?_ _)); refine blk_put (cs := #[.bool a0_0, u275001]) ?_ 1 _ rfl; exact zk BK274⟩, ⟨(zb w)⟩⟩
         ·rw [if_neg c27] at H
          exact absurd H (by simp)
        ·rw [if_neg c26] at H
         have c26b0 : decide ((wrap64 ((wrap64 ((rd l0_1 x32_1) - t276)) - x6_1)) < 0) = false := decide_eq_false c26
         clear c26
         by_cases c37 : x275001_1.length < 17592186044416
         ·rw [if_pos c37] at H
          have LMc37 := Aside0.mk c37
          clear c37
          obtain ⟨y280, hy280⟩ : ∃ y_ : List Int, y_ = (x275001_1 ++ [wrap64 ((wrap64 ((rd l0_1 x32_1) - t276)) - x6_1)]) := ⟨_, rfl⟩
          replace H : (interchangeref1_Plus_fo.l0 k1 0 (l0_1.length : Int) (wrap64 (x32_1 + 1)) a0_0 l0_1 a1_0 l1_1 a0_0 y280) = some (r1, r2) := by first | (rw [hy280]; with_reducible exact H) | (have H2_ := (Option.bind_some _ _).symm.trans H; rw [hy280]; with_reducible exact H2_) | (have H2_ := (Option.bind_some _ _).symm.trans H; with_reducible exact H2_) | with_reducible exact H | (rw [hy280]; exact H) | exact H
          have Ny280 := Aside0.mk hy280
          clear hy280
          have H' := Aside0.mk H
          clear H
          try go_wp2
          have n0_ := Aside0.mk (Kd.R_drew HO_275001.out)
          have n1_ := Aside0.mk (blk_drew BK270.out)
          have n2_ := Aside0.mk (blk_drew BK271.out)
          have n3_ := Aside0.mk (blk_drew BK272.out)
          have n4_ := Aside0.mk (blk_drew BK274.out)
          have n5_ := Aside0.mk (below_drew1 HB.out)
          clear HO_275001
          clear BK270
          clear BK271
          clear BK272
          clear BK274
          clear HB
          have HO_275001 := n0_
          have BK270 := n1_
          have BK271 := n2_
          have BK272 := n3_
          have BK274 := n4_
          have HB := n5_
          clear n0_ n1_ n2_ n3_ n4_ n5_
          have p275 : 0 ≤ (x32_1 : Int) := of_decide_eq_true (by assumption)
          have q275 : x32_1 < (l0_1.length : Int) := of_decide_eq_true (by assumption)
          obtain ⟨ad275, e275, hx275_0⟩ := Kd.at_int HR0_1.out x32_1 p275 q275
          have hw275_0 := hx275_0
          cases e275
          replace hx275_0 := hz HB hx275_0
          replace p275 := eq_true p275
          replace q275 := eq_true q275
          refine start_ (n := 13) (S := fun w' => w'.cell? ⟨gb270, 0, none⟩ = some (.bool a0_0) ∧ w'.cell? ⟨gb270, 1, none⟩ = some (.slice (some ad275) l0_1.length c0_1) ∧ w'.cell? ⟨gb271, 0, none⟩ = some (.bool a1_0) ∧ w'.cell? ⟨gb271, 1, none⟩ = some (.slice A1_1 l1_1.length c1_1) ∧ w'.cell? (ad275.add (x32_1).toNat) = some (.int .i64 (rd l0_1 x32_1))) (ds := []) (bm 13 0) (by kernel_rfl) rfl rfl ⟨(blk_cell BK270.out 0).trans rfl, (blk_cell BK270.out 1).trans rfl, (blk_cell BK271.out 0).trans rfl, (blk_cell BK271.out 1).trans rfl, ((HB.out.cell (World.block_lt_of_cell? w _ hw275_0)).trans hw275_0)⟩ (fun hHeld => ?_); refine with_tabW interchangeref1_Plus_fo.tab9 interchangeref1_Plus_fo.bits9 (fun HT_ HW_ => ?_)
          generalize wr.drew = w38 at HO_275001 BK270 BK271 BK272 BK274 HB hx275_0 hHeld ⊢
          refine pu 0 35 (bm 13 1) HT_ ?_
          refine pu 2 37 (bm 13 5) HT_ ?_
          refine pu 5 40 (bm 13 37) HT_ ?_
          refine pu 7 42 (bm 13 165) HT_ ?_
          refine pu 10 45 (bm 13 1189) HT_ ?_
          refine ta5 1 36 (bm 13 1191) HT_ HW_ hHeld ?_
          refine pu 3 38 (bm 13 1199) HT_ ?_
          refine ta5 4 39 (bm 13 1215) HT_ HW_ hHeld ?_
          refine ta5 6 41 (bm 13 1279) HT_ HW_ hHeld ?_
          refine one_ (i := 8) (N := some 43) (bm 13 1535) rfl rfl (one_of HT_.out (by kernel_rfl)) (by decide) (fun K hK => ?_)
          refine gs Tryd.func34 #[.slice A1_1 l1_1.length c1_1, .int .i64 x32_1] ?_
          with_reducible refine (interchangeref1_digit.calls _ _ l1_1 x32_1 t276 _ (zc HR1_1) HC1_1.out A25.out).mono ?_
          rintro e w39 ⟨rfl, hb⟩
          refine ⟨_, rfl, ?_⟩
          have n0_ := rb HO_275001 hb
          have n1_ := bb BK270 hb
          have n2_ := bb BK271 hb
          have n3_ := bb BK272 hb
          have n4_ := bb BK274 hb
          have n5_ := hs w hb
          clear HO_275001
          clear BK270
          clear BK271
          clear BK272
          clear BK274
          clear HB
          have HO_275001 := n0_
          have BK270 := n1_
          have BK271 := n2_
          have BK272 := n3_
          have BK274 := n4_
          have HB := n5_
          clear n0_ n1_ n2_ n3_ n4_ n5_
          (try clear hb)
          (try clear hb2)
          (try clear hk)
          (try clear hi)
          refine hK.out _ _ ⟨(blk_cell BK270.out 0).trans rfl, (blk_cell BK270.out 1).trans rfl, (blk_cell BK271.out 0).trans rfl, (blk_cell BK271.out 1).trans rfl, ((HB.out.cell (World.block_lt_of_cell? w _ hw275_0)).trans hw275_0)⟩ (fun hHeld => ?_)
          clear hK K
          refine norm_ (a' := ?_) ?_ ?_
          rotate_left
          ·show Act.put _ (some 43) _ = _
           simp only [sq, i64_w, i32_w]
           rfl
          refine pu 9 44 (bm 13 2047) HT_ ?_
          refine pu 11 46 (bm 13 4095) HT_ ?_
          refine pu 12 8 (bm 13 8191) HT_ ?_
          refine done_ (done_of HT_.out (by kernel_rfl)) ?_
          have hnb40 := NB274_270.out
          have hnc40 := NB270_274.out
          have hnb41 := NB274_271.out
          have hnc41 := NB271_274.out
          have hnb42 := NB274_272.out
          have hnc42 := NB272_274.out
          obtain ⟨hcz43_0, hcz43_1, hfz43_0, hfz43_1⟩ := cz2 BK274
          try go_wp2_with (first | ((with_reducible refine gate_builtin (b := .append) (xs := #[.tmp 52, .tmp 54]) rfl ?_); at_builtin; refine Kd.R_append (Kd.int .i64) (w0 := w) w.heap.size rfl (.tmp 52) (.tmp 54) 38 3 (.int .i64 0) 8 rfl Tryd.underlying38 info3 rfl (by decide) (by omega) u275001 x275001_1 (wrap64 ((wrap64 ((rd l0_1 x32_1) - t276)) - x6_1)) [.int .i64 (wrap64 ((wrap64 ((rd l0_1 x32_1) - t276)) - x6_1))] (fun k_ => (w.heap.size ≤ k_)) (fun _ => False) rfl rfl ?aP (fun _ hk => hk.elim) ?aF ?aO ?aB ?aS ?aL ?_; (case aP => exact rfl); (case aB => exact (zb w)); (case aF => exact (fun k_ hk => (Nat.le_trans (below_size (zb w)) hk))); (case aO => exact (zo HO_275001)); (case aS => exact (below_size (zb w))); (case aL => have := LMc37.out; omega); intro v281 w44 ho hb hg hat; rw [← Ny280.out] at ho; replace BK270 := Aside0.mk (blk_grown (g := gb270) (o := .cells #[.bool a0_0, .slice (some ad275) l0_1.length c0_1] 40 (0, 0)) (zk BK270) hg (Kd.R_ne HO_275001.out BK270.out (by decide))); replace BK271 := Aside0.mk (blk_grown (g := gb271) (o := .cells #[.bool a1_0, .slice A1_1 l1_1.length c1_1] 40 (0, 0)) (zk BK271) hg (Kd.R_ne HO_275001.out BK271.out (by decide))); replace BK272 := Aside0.mk (blk_grown (g := gb272) (o := .cells #[.bool false, .slice none 0 0] 40 (0, 0)) (zk BK272) hg (Kd.R_ne HO_275001.out BK272.out (by decide))); replace BK274 := Aside0.mk (blk_grown (g := gb274) (o := .cells #[.bool a0_0, u275001] 40 (0, 0)) (zk BK274) hg (Kd.R_ne HO_275001.out BK274.out (by decide))); replace HB := Aside0.mk (hb); have HO282 := Aside0.mk (ho); clear HO_275001; clear ho hb hg hat; obtain ⟨Ao45, co45, eo45⟩ := Kd.R_slice HO282.out; subst eo45; obtain ⟨hcz46_0, hcz46_1, hfz46_0, hfz46_1⟩ := cz2 BK274))
          go_roundg k1
          case measure => have := HK1.out; omega
          case rel => exact ⟨(0), (wrap64 (x32_1 + 1)), (y280), (.slice Ao45 y280.length co45), ar, ar, H', ⟨by have := HK1.out; omega⟩, ⟨by (with_reducible repeat (first | apply Kd.R_alloc | apply Kd.R_drewN | apply Kd.R_drew)); exact Kd.R_mono (Kd.R_far (p := ⟨gb274, 1, none⟩) (Kd.R_types HO282.out BK274.out (by decide)) (fun _ hk => hk.2) (.slice Ao45 y280.length co45)) (fun _ hk => hk.1)⟩, ⟨by (with_reducible repeat (first | refine blk_drewN ?_ _ | refine blk_drew ?_ | refine blk_alloc ?_ _)); refine blk_far ?_ NB270_274.out _; exact zk BK270⟩, ⟨by (with_reducible repeat (first | refine blk_drewN ?_ _ | refine blk_drew ?_ | refine blk_alloc ?_ _)); refine blk_far ?_ NB271_274.out _; exact zk BK271⟩, ⟨by (with_reducible repeat (first | refine blk_drewN ?_ _ | refine blk_drew ?_ | refine blk_alloc ?_ _)); refine blk_far ?_ NB272_274.out _; exact zk BK272⟩, ⟨by (with_reducible repeat (first | refine blk_drewN ?_ _ | refine blk_drew ?_ | refine blk_alloc ?_ _)); refine blk_put (cs := #[.bool a0_0, u275001]) ?_ 1 _ rfl; exact zk BK274⟩, ⟨(zb w)⟩⟩
         ·rw [if_neg c37] at H
          exact absurd H (by simp)
       ·rw [if_neg c24] at H
        exact absurd H (by simp)
      ·rw [if_neg c23] at H
       exact absurd H (by simp)
     ·rw [if_neg c22] at H
      have c22b0 : decide (x32_1 < (l0_1.length : Int)) = false := decide_eq_false c22
      clear c22
      replace H := Option.bind_eq_some_iff.mp H
      obtain ⟨⟨t283, t284⟩, A470, H⟩ := H
      try dsimp only at H
      have A47 := Aside0.mk A470
      clear A470
      simp only [Option.some.injEq, Prod.mk.injEq] at H
      obtain ⟨rfl, rfl⟩ := H
      have hnb48 := NB274_270.out
      have hnc48 := NB270_274.out
      have hnb49 := NB274_271.out
      have hnc49 := NB271_274.out
      have hnb50 := NB274_272.out
      have hnc50 := NB272_274.out
      obtain ⟨hcz51_0, hcz51_1, hfz51_0, hfz51_1⟩ := cz2 BK274
      obtain ⟨Ao52, co52, eo52⟩ := Kd.R_slice HO_275001.out
      subst eo52
      go_wp2_with (first | ((with_reducible refine gC 35 rfl ?_); refine gl_ 59 Tryd.func35 #[.agg #[.bool a0_0, .slice Ao52 x275001_1.length co52]] ?_; (with_reducible refine (interchangeref1_trimmed.calls k1 a0_0 (fun k_ => some k_ = (.slice Ao52 x275001_1.length co52 : Value).ownBlock) _ _ x275001_1 t283 t284 _ ?side1 A47.out).mono ?_); (case side1 => exact Kd.R_V (Kd.R_tight rfl (Kd.R_types (Kd.R_types (Kd.R_types (Kd.R_types (HO_275001.out) BK270.out (by decide)) BK271.out (by decide)) BK272.out (by decide)) BK274.out (by decide)))); rintro e w53 ⟨v285, rfl, ho0, hb⟩; refine ⟨_, rfl, ?_⟩; have HO286 := Aside0.mk (Kd.V_lower (Kd.V_mono (ok' := fun k_ => (w.heap.size ≤ k_) ∧ k_ ≠ gb270 ∧ k_ ≠ gb271 ∧ k_ ≠ gb272 ∧ k_ ≠ gb274) ho0 (fun k_ hk_ => ⟨Or.elim hk_ (fun hs_ => ((Kd.R_types (Kd.R_types (Kd.R_types (Kd.R_types (HO_275001.out) BK270.out (by decide)) BK271.out (by decide)) BK272.out (by decide)) BK274.out (by decide)).1 k_ hs_.symm).1.1.1.1) (fun hn_ => (Nat.le_trans (below_size (zb w)) hn_)), Or.elim hk_ (fun hs_ => ((Kd.R_types (Kd.R_types (Kd.R_types (Kd.R_types (HO_275001.out) BK270.out (by decide)) BK271.out (by decide)) BK272.out (by decide)) BK274.out (by decide)).1 k_ hs_.symm).1.1.1.2) (fun hn_ => (Kd.freshB (g := gb270) (o := .cells #[.bool a0_0, .slice A0_1 l0_1.length c0_1] 40 (0, 0)) (zk BK270) k_ hn_)), Or.elim hk_ (fun hs_ => ((Kd.R_types (Kd.R_types (Kd.R_types (Kd.R_types (HO_275001.out) BK270.out (by decide)) BK271.out (by decide)) BK272.out (by decide)) BK274.out (by decide)).1 k_ hs_.symm).1.1.2) (fun hn_ => (Kd.freshB (g := gb271) (o := .cells #[.bool a1_0, .slice A1_1 l1_1.length c1_1] 40 (0, 0)) (zk BK271) k_ hn_)), Or.elim hk_ (fun hs_ => ((Kd.R_types (Kd.R_types (Kd.R_types (Kd.R_types (HO_275001.out) BK270.out (by decide)) BK271.out (by decide)) BK272.out (by decide)) BK274.out (by decide)).1 k_ hs_.symm).1.2) (fun hn_ => (Kd.freshB (g := gb272) (o := .cells #[.bool false, .slice none 0 0] 40 (0, 0)) (zk BK272) k_ hn_)), Or.elim hk_ (fun hs_ => ((Kd.R_types (Kd.R_types (Kd.R_types (Kd.R_types (HO_275001.out) BK270.out (by decide)) BK271.out (by decide)) BK272.out (by decide)) BK274.out (by decide)).1 k_ hs_.symm).2) (fun hn_ => (Kd.freshB (g := gb274) (o := .cells #[.bool a0_0, .slice Ao52 x275001_1.length co52] 40 (0, 0)) (zk BK274) k_ hn_))⟩)) (below_size (zb w))); replace HO_275001 := rb HO_275001 hb; replace BK270 := bb BK270 hb; replace BK271 := bb BK271 hb; replace BK272 := bb BK272 hb; replace BK274 := bb BK274 hb; replace HB := hs w hb; (try clear hb); (try clear ho0); have hnb54 := NB272_270.out; have hnc54 := NB270_272.out; have hnb55 := NB272_271.out; have hnc55 := NB271_272.out; obtain ⟨hcz56_0, hcz56_1, hfz56_0, hfz56_1⟩ := cz2 BK272; obtain ⟨Ao57, co57, eo57⟩ := Kd.V_slice HO286.out; subst eo57))
      refine bodyPost_ret (results_cell_row rfl _ _ gb272 40 #[.bool t283, .slice Ao57 t284.length co57] (0, 0) _ rfl (by (with_reducible repeat (first | refine blk_drewN ?_ _ | refine blk_drew ?_ | refine blk_alloc ?_ _)); refine blk_put (cs := #[.bool t283, .slice none 0 0]) ?_ 1 _ rfl; (with_reducible repeat (first | refine blk_drewN ?_ _ | refine blk_drew ?_ | refine blk_alloc ?_ _)); refine blk_put (cs := #[.bool false, .slice none 0 0]) ?_ 0 _ rfl; exact zk BK272) Tryd.underlying40 rfl (by kernel_rfl)) rfl ?_
      exact ⟨_, by first | rfl | (simp [errW_none, errW_some] <;> rfl) | (simp [*, errW_none, errW_some] <;> rfl), by (with_reducible repeat (first | apply Kd.V_alloc | apply Kd.V_drewN | apply Kd.V_drew)); exact Kd.V_mono (Kd.V_far (p := ⟨gb272, 1, none⟩) (Kd.V_far (p := ⟨gb272, 0, none⟩) (Kd.V_mono HO286.out (fun k_ hk => (⟨hk, hk.2.2.2.1⟩ : _ ∧ k_ ≠ gb272))) (fun _ hk => hk.2) (.bool t283)) (fun _ hk => hk.2) (.slice Ao57 t284.length co57)) (fun _ hk => hk.1.1), (zb w)⟩
 ·rw [if_neg c3] at H
  have c3b0 : (!(a0_0 == a1_0)) = false := by simpa using c3
  clear c3
  by_cases c58 : (l0_1.length : Int) < (l1_1.length : Int)
  ·rw [if_pos c58] at H
   have c58i := eq_true c58
   have c58b0 : decide ((l0_1.length : Int) < (l1_1.length : Int)) = true := decide_eq_true c58
   have c58b1 : decide (l0_1.length < l1_1.length) = true := decide_eq_true (Int.ofNat_lt.mp c58)
   clear c58
   have H' := Aside0.mk H
   clear H
   go_enter Tryd.func17, Tryd.ntmps17
   go_wp2_with (first | ((with_reducible refine gD 2 rfl ?_); refine bx w 2 #[.bool a0_0, .slice A0_1 l0_1.length c0_1] 40 ?_; intro gb270 hg w59 hb BK270 GW270 GE270; clear HB; intro HB; clear hb hg) | ((with_reducible refine gD 3 rfl ?_); refine bx w 3 #[.bool a1_0, .slice A1_1 l1_1.length c1_1] 40 ?_; intro gb271 hg w60 hb BK271 GW271 GE271; clear HB; intro HB; have NB270_271 := nbl BK270 hg; have NB271_270 := nbr BK270 hg; replace BK270 := bb BK270 hb; clear hb hg) | ((with_reducible refine gD 4 rfl ?_); refine bx w 4 #[.bool false, .slice none 0 0] 40 ?_; intro gb272 hg w61 hb BK272 GW272 GE272; clear HB; intro HB; have NB270_272 := nbl BK270 hg; have NB272_270 := nbr BK270 hg; replace BK270 := bb BK270 hb; have NB271_272 := nbl BK271 hg; have NB272_271 := nbr BK271 hg; replace BK271 := bb BK271 hb; clear hb hg; have hnb62 := NB270_271.out; have hnc62 := NB271_270.out; have hnb63 := NB270_272.out; have hnc63 := NB272_270.out; obtain ⟨hcz64_0, hcz64_1, hfz64_0, hfz64_1⟩ := cz2 BK270; have hnb65 := NB271_272.out; have hnc65 := NB272_271.out; obtain ⟨hcz66_0, hcz66_1, hfz66_0, hfz66_1⟩ := cz2 BK271) | ((with_reducible refine gD 9 rfl ?_); refine bx w 9 #[.bool false, .slice none 0 0] 40 ?_; intro gb287 hg w67 hb BK287 GW287 GE287; clear HB; intro HB; have NB270_287 := nbl BK270 hg; have NB287_270 := nbr BK270 hg; replace BK270 := bb BK270 hb; have NB271_287 := nbl BK271 hg; have NB287_271 := nbr BK271 hg; replace BK271 := bb BK271 hb; have NB272_287 := nbl BK272 hg; have NB287_272 := nbr BK272 hg; replace BK272 := bb BK272 hb; clear hb hg; have hnb68 := NB287_270.out; have hnc68 := NB270_287.out; have hnb69 := NB287_271.out; have hnc69 := NB271_287.out; have hnb70 := NB287_272.out; have hnc70 := NB272_287.out; obtain ⟨hcz71_0, hcz71_1, hfz71_0, hfz71_1⟩ := cz2 BK287; obtain ⟨hcz72_0, hcz72_1, hfz72_0, hfz72_1⟩ := cz2 BK270; obtain ⟨hcz73_0, hcz73_1, hfz73_0, hfz73_1⟩ := cz2 BK271))
   try simp only [sq]
   go_loopg [10, 71] k (fun kq v10 v71 w' => ∃ (x10_1 : Int) (x71_1 : Int) (x288001_1 : List Int) (u288001 : Value), v10 = .int .i64 x10_1 ∧ v71 = .int .i64 x71_1 ∧ Aside0 (interchangeref1_Plus_fo.l1 kq x10_1 (wrap64 ((l1_1.length : Int) + 1)) x71_1 a0_0 l0_1 a1_0 l1_1 a0_0 x288001_1 = some (r1, r2)) ∧ Aside0 (kq ≤ k) ∧ Aside0 (Kd.R (Kd.int .i64) 3 w' w.heap.size (fun k_ => (w.heap.size ≤ k_)) u288001 x288001_1) ∧ Aside0 (w'.heap[gb270]? = some (.cells #[.bool a0_0, (.slice A0_1 l0_1.length c0_1)] 40 (0, 0))) ∧ Aside0 (w'.heap[gb271]? = some (.cells #[.bool a1_0, (.slice A1_1 l1_1.length c1_1)] 40 (0, 0))) ∧ Aside0 (w'.heap[gb272]? = some (.cells #[.bool false, (.slice none 0 0)] 40 (0, 0))) ∧ Aside0 (w'.heap[gb287]? = some (.cells #[.bool a0_0, u288001] 40 (0, 0))) ∧ Aside0 (Below w.heap.size w w'))
   case atStart => exact ⟨(0), (0), (([] : List Int)), (.slice none 0 0), ar, ar, H', ⟨Nat.le_refl _⟩, ⟨by first | exact Kd.R_nil _ _ _ _ _ | exact Kd.N_nil _ _ _ _ _ | exact Kd.V_nil _ _ _ _ _ | exact Kd.Q_nil _ _ _ _ _ | exact Kd.S_nil _ _ _ _ _⟩, ⟨by (with_reducible repeat (first | refine blk_drewN ?_ _ | refine blk_drew ?_ | refine blk_alloc ?_ _)); refine blk_far ?_ NB270_287.out _; (with_reducible repeat (first | refine blk_drewN ?_ _ | refine blk_drew ?_ | refine blk_alloc ?_ _)); refine blk_far ?_ NB270_287.out _; exact zk BK270⟩, ⟨by (with_reducible repeat (first | refine blk_drewN ?_ _ | refine blk_drew ?_ | refine blk_alloc ?_ _)); refine blk_far ?_ NB271_287.out _; (with_reducible repeat (first | refine blk_drewN ?_ _ | refine blk_drew ?_ | refine blk_alloc ?_ _)); refine blk_far ?_ NB271_287.out _; exact zk BK271⟩, ⟨by (with_reducible repeat (first | refine blk_drewN ?_ _ | refine blk_drew ?_ | refine blk_alloc ?_ _)); refine blk_far ?_ NB272_287.out _; (with_reducible repeat (first | refine blk_drewN ?_ _ | refine blk_drew ?_ | refine blk_alloc ?_ _)); refine blk_far ?_ NB272_287.out _; exact zk BK272⟩, ⟨by (with_reducible repeat (first | refine blk_drewN ?_ _ | refine blk_drew ?_ | refine blk_alloc ?_ _)); refine blk_put (cs := #[.bool a0_0, .slice none 0 0]) ?_ 1 _ rfl; (with_reducible repeat (first | refine blk_drewN ?_ _ | refine blk_drew ?_ | refine blk_alloc ?_ _)); refine blk_put (cs := #[.bool false, .slice none 0 0]) ?_ 0 _ rfl; exact zk BK287⟩, ⟨(zb w)⟩⟩
   case round =>
    clear H'
    try clear c1
    try clear c2
    try clear p2
    try clear q2
    try clear hx2
    try clear c3
    try clear c3b0
    try clear c4
    try clear c5
    try clear c5b0
    try clear c6
    try clear p6
    try clear c7
    try clear c9
    try clear c10
    try clear c12
    try clear c17
    try clear c18
    try clear c19
    try clear c22
    try clear c22b0
    try clear c23
    try clear c23b0
    try clear c24
    try clear c24b0
    try clear c26
    try clear c26b0
    try clear c27
    try clear p27
    try clear q27
    try clear hx27
    try clear c30
    try clear c31
    try clear c32
    try clear c33
    try clear c34
    try clear c35
    try clear c37
    try clear c40
    try clear c41
    try clear c42
    try clear c48
    try clear c49
    try clear c50
    try clear c54
    try clear c55
    try clear c58
    try clear c58b0
    try clear c58b1
    try clear c62
    try clear c63
    try clear p64
    try clear c65
    try clear c68
    try clear c69
    try clear c70
    try clear hcz11_0 hcz11_1
    try clear hcz13_0 hcz13_1
    try clear hcz15_0 hcz15_1
    try clear hcz20_0 hcz20_1
    try clear hcz21_0 hcz21_1
    try clear hcz33_0 hcz33_1
    try clear hcz36_0 hcz36_1
    try clear hcz43_0 hcz43_1
    try clear hcz46_0 hcz46_1
    try clear hcz51_0 hcz51_1
    try clear hcz56_0 hcz56_1
    try clear hcz64_0 hcz64_1
    try clear hcz66_0 hcz66_1
    try clear hcz71_0 hcz71_1
    try clear hcz72_0 hcz72_1
    try clear hcz73_0 hcz73_1
    try clear hfz11_0 hfz11_1
    try clear hfz13_0 hfz13_1
    try clear hfz15_0 hfz15_1
    try clear hfz20_0 hfz20_1
    try clear hfz21_0 hfz21_1
    try clear hfz33_0 hfz33_1
    try clear hfz36_0 hfz36_1
    try clear hfz43_0 hfz43_1
    try clear hfz46_0 hfz46_1
    try clear hfz51_0 hfz51_1
    try clear hfz56_0 hfz56_1
    try clear hfz64_0 hfz64_1
    try clear hfz66_0 hfz66_1
    try clear hfz71_0 hfz71_1
    try clear hfz72_0 hfz72_1
    try clear hfz73_0 hfz73_1
    try clear hx275_0
    try clear p2
    try clear p275
    try clear p6
    try clear q275
    obtain ⟨x10_1, x71_1, x288001_1, u288001, rfl, rfl, HA, HK1, HO_288001, BK270, BK271, BK272, BK287, HB⟩ := hrel
    cases gk with
    | zero => exact absurd HA.out (by simp [interchangeref1_Plus_fo.l1])
    | succ k1 =>
     have H := HA.out
     clear HA
     simp only [interchangeref1_Plus_fo.l1] at H
     by_cases c74 : x71_1 < (wrap64 ((l1_1.length : Int) + 1))
     ·rw [if_pos c74] at H
      have c74b0 : decide (x71_1 < (wrap64 ((l1_1.length : Int) + 1))) = true := decide_eq_true c74
      clear c74
      replace H := Option.bind_eq_some_iff.mp H
      obtain ⟨t288, A750, H⟩ := H
      try dsimp only at H
      have A75 := Aside0.mk A750
      clear A750
      replace H := Option.bind_eq_some_iff.mp H
      obtain ⟨t289, A760, H⟩ := H
      try dsimp only at H
      have A76 := Aside0.mk A760
      clear A760
      by_cases c77 : x288001_1.length < 17592186044416
      ·rw [if_pos c77] at H
       have LMc77 := Aside0.mk c77
       clear c77
       obtain ⟨y290, hy290⟩ : ∃ y_ : List Int, y_ = (x288001_1 ++ [Int.tmod (wrap64 ((wrap64 (t288 + t289)) + x10_1)) 1000000]) := ⟨_, rfl⟩
       replace H : (interchangeref1_Plus_fo.l1 k1 (wrap64 (Int.tdiv (wrap64 ((wrap64 (t288 + t289)) + x10_1)) 1000000)) (wrap64 ((l1_1.length : Int) + 1)) (wrap64 (x71_1 + 1)) a0_0 l0_1 a1_0 l1_1 a0_0 y290) = some (r1, r2) := by first | (rw [hy290]; with_reducible exact H) | (have H2_ := (Option.bind_some _ _).symm.trans H; rw [hy290]; with_reducible exact H2_) | (have H2_ := (Option.bind_some _ _).symm.trans H; with_reducible exact H2_) | with_reducible exact H | (rw [hy290]; exact H) | exact H
       have Ny290 := Aside0.mk hy290
       clear hy290
       have H' := Aside0.mk H
       clear H
       try go_wp2
       have n0_ := Aside0.mk (Kd.R_drew HO_288001.out)
       have n1_ := Aside0.mk (blk_drew BK270.out)
       have n2_ := Aside0.mk (blk_drew BK271.out)
       have n3_ := Aside0.mk (blk_drew BK272.out)
       have n4_ := Aside0.mk (blk_drew BK287.out)
       have n5_ := Aside0.mk (below_drew1 HB.out)
       clear HO_288001
       clear BK270
       clear BK271
       clear BK272
       clear BK287
       clear HB
       have HO_288001 := n0_
       have BK270 := n1_
       have BK271 := n2_
       have BK272 := n3_
       have BK287 := n4_
       have HB := n5_
       clear n0_ n1_ n2_ n3_ n4_ n5_
       refine start_ (n := 12) (S := fun w' => w'.cell? ⟨gb270, 0, none⟩ = some (.bool a0_0) ∧ w'.cell? ⟨gb270, 1, none⟩ = some (.slice A0_1 l0_1.length c0_1) ∧ w'.cell? ⟨gb271, 0, none⟩ = some (.bool a1_0) ∧ w'.cell? ⟨gb271, 1, none⟩ = some (.slice A1_1 l1_1.length c1_1)) (ds := []) (bm 12 0) (by kernel_rfl) rfl rfl ⟨(blk_cell BK270.out 0).trans rfl, (blk_cell BK270.out 1).trans rfl, (blk_cell BK271.out 0).trans rfl, (blk_cell BK271.out 1).trans rfl⟩ (fun hHeld => ?_); refine with_tabW interchangeref1_Plus_fo.tab21 interchangeref1_Plus_fo.bits21 (fun HT_ HW_ => ?_)
       generalize wr.drew = w78 at HO_288001 BK270 BK271 BK272 BK287 HB hHeld ⊢
       refine pu 0 74 (bm 12 1) HT_ ?_
       refine pu 2 76 (bm 12 5) HT_ ?_
       refine pu 4 78 (bm 12 21) HT_ ?_
       refine pu 6 80 (bm 12 85) HT_ ?_
       refine pu 9 83 (bm 12 597) HT_ ?_
       refine ta4 1 75 (bm 12 599) HT_ HW_ hHeld ?_
       refine ta4 5 79 (bm 12 631) HT_ HW_ hHeld ?_
       refine one_ (i := 3) (N := some 77) (bm 12 639) rfl rfl (one_of HT_.out (by kernel_rfl)) (by decide) (fun K hK => ?_)
       refine gs Tryd.func34 #[.slice A0_1 l0_1.length c0_1, .int .i64 x71_1] ?_
       with_reducible refine (interchangeref1_digit.calls _ _ l0_1 x71_1 t288 _ (zc HR0_1) HC0_1.out A75.out).mono ?_
       rintro e w79 ⟨rfl, hb⟩
       refine ⟨_, rfl, ?_⟩
       have n0_ := rb HO_288001 hb
       have n1_ := bb BK270 hb
       have n2_ := bb BK271 hb
       have n3_ := bb BK272 hb
       have n4_ := bb BK287 hb
       have n5_ := hs w hb
       clear HO_288001
       clear BK270
       clear BK271
       clear BK272
       clear BK287
       clear HB
       have HO_288001 := n0_
       have BK270 := n1_
       have BK271 := n2_
       have BK272 := n3_
       have BK287 := n4_
       have HB := n5_
       clear n0_ n1_ n2_ n3_ n4_ n5_
       (try clear hb)
       (try clear hb2)
       (try clear hk)
       (try clear hi)
       refine hK.out _ _ ⟨(blk_cell BK270.out 0).trans rfl, (blk_cell BK270.out 1).trans rfl, (blk_cell BK271.out 0).trans rfl, (blk_cell BK271.out 1).trans rfl⟩ (fun hHeld => ?_)
       clear hK K
       refine norm_ (a' := ?_) ?_ ?_
       rotate_left
       ·show Act.put _ (some 77) _ = _
        simp only [sq, i64_w, i32_w]
        rfl
       refine one_ (i := 7) (N := some 81) (bm 12 767) rfl rfl (one_of HT_.out (by kernel_rfl)) (by decide) (fun K hK => ?_)
       refine gs Tryd.func34 #[.slice A1_1 l1_1.length c1_1, .int .i64 x71_1] ?_
       with_reducible refine (interchangeref1_digit.calls _ _ l1_1 x71_1 t289 _ (zc HR1_1) HC1_1.out A76.out).mono ?_
       rintro e w80 ⟨rfl, hb⟩
       refine ⟨_, rfl, ?_⟩
       have n0_ := rb HO_288001 hb
       have n1_ := bb BK270 hb
       have n2_ := bb BK271 hb
       have n3_ := bb BK272 hb
       have n4_ := bb BK287 hb
       have n5_ := hs w hb
       clear HO_288001
       clear BK270
       clear BK271
       clear BK272
       clear BK287
       clear HB
       have HO_288001 := n0_
       have BK270 := n1_
       have BK271 := n2_
       have BK272 := n3_
       have BK287 := n4_
       have HB := n5_
       clear n0_ n1_ n2_ n3_ n4_ n5_
       (try clear hb)
       (try clear hb2)
       (try clear hk)
       (try clear hi)
       refine hK.out _ _ ⟨(blk_cell BK270.out 0).trans rfl, (blk_cell BK270.out 1).trans rfl, (blk_cell BK271.out 0).trans rfl, (blk_cell BK271.out 1).trans rfl⟩ (fun hHeld => ?_)
       clear hK K
       refine norm_ (a' := ?_) ?_ ?_
       rotate_left
       ·show Act.put _ (some 81) _ = _
        simp only [sq, i64_w, i32_w]
        rfl
       refine pu 8 82 (bm 12 1023) HT_ ?_
       refine pu 10 84 (bm 12 2047) HT_ ?_
       refine pu 11 12 (bm 12 4095) HT_ ?_
       refine done_ (done_of HT_.out (by kernel_rfl)) ?_
       have hnb81 := NB287_270.out
       have hnc81 := NB270_287.out
       have hnb82 := NB287_271.out
       have hnc82 := NB271_287.out
       have hnb83 := NB287_272.out
       have hnc83 := NB272_287.out
       obtain ⟨hcz84_0, hcz84_1, hfz84_0, hfz84_1⟩ := cz2 BK287
       try go_wp2_with (first | ((with_reducible refine gate_builtin (b := .append) (xs := #[.tmp 86, .tmp 89]) rfl ?_); at_builtin; refine Kd.R_append (Kd.int .i64) (w0 := w) w.heap.size rfl (.tmp 86) (.tmp 89) 38 3 (.int .i64 0) 8 rfl Tryd.underlying38 info3 rfl (by decide) (by omega) u288001 x288001_1 (Int.tmod (wrap64 ((wrap64 (t288 + t289)) + x10_1)) 1000000) [.int .i64 (Int.tmod (wrap64 ((wrap64 (t288 + t289)) + x10_1)) 1000000)] (fun k_ => (w.heap.size ≤ k_)) (fun _ => False) rfl rfl ?aP (fun _ hk => hk.elim) ?aF ?aO ?aB ?aS ?aL ?_; (case aP => exact rfl); (case aB => exact (zb w)); (case aF => exact (fun k_ hk => (Nat.le_trans (below_size (zb w)) hk))); (case aO => exact (zo HO_288001)); (case aS => exact (below_size (zb w))); (case aL => have := LMc77.out; omega); intro v291 w85 ho hb hg hat; rw [← Ny290.out] at ho; replace BK270 := Aside0.mk (blk_grown (g := gb270) (o := .cells #[.bool a0_0, .slice A0_1 l0_1.length c0_1] 40 (0, 0)) (zk BK270) hg (Kd.R_ne HO_288001.out BK270.out (by decide))); replace BK271 := Aside0.mk (blk_grown (g := gb271) (o := .cells #[.bool a1_0, .slice A1_1 l1_1.length c1_1] 40 (0, 0)) (zk BK271) hg (Kd.R_ne HO_288001.out BK271.out (by decide))); replace BK272 := Aside0.mk (blk_grown (g := gb272) (o := .cells #[.bool false, .slice none 0 0] 40 (0, 0)) (zk BK272) hg (Kd.R_ne HO_288001.out BK272.out (by decide))); replace BK287 := Aside0.mk (blk_grown (g := gb287) (o := .cells #[.bool a0_0, u288001] 40 (0, 0)) (zk BK287) hg (Kd.R_ne HO_288001.out BK287.out (by decide))); replace HB := Aside0.mk (hb); have HO292 := Aside0.mk (ho); clear HO_288001; clear ho hb hg hat; obtain ⟨Ao86, co86, eo86⟩ := Kd.R_slice HO292.out; subst eo86; obtain ⟨hcz87_0, hcz87_1, hfz87_0, hfz87_1⟩ := cz2 BK287))
       go_roundg k1
       case measure => have := HK1.out; omega
       case rel => exact ⟨(wrap64 (Int.tdiv (wrap64 ((wrap64 (t288 + t289)) + x10_1)) 1000000)), (wrap64 (x71_1 + 1)), (y290), (.slice Ao86 y290.length co86), ar, ar, H', ⟨by have := HK1.out; omega⟩, ⟨by (with_reducible repeat (first | apply Kd.R_alloc | apply Kd.R_drewN | apply Kd.R_drew)); exact Kd.R_mono (Kd.R_far (p := ⟨gb287, 1, none⟩) (Kd.R_types HO292.out BK287.out (by decide)) (fun _ hk => hk.2) (.slice Ao86 y290.length co86)) (fun _ hk => hk.1)⟩, ⟨by (with_reducible repeat (first | refine blk_drewN ?_ _ | refine blk_drew ?_ | refine blk_alloc ?_ _)); refine blk_far ?_ NB270_287.out _; exact zk BK270⟩, ⟨by (with_reducible repeat (first | refine blk_drewN ?_ _ | refine blk_drew ?_ | refine blk_alloc ?_ _)); refine blk_far ?_ NB271_287.out _; exact zk BK271⟩, ⟨by (with_reducible repeat (first | refine blk_drewN ?_ _ | refine blk_drew ?_ | refine blk_alloc ?_ _)); refine blk_far ?_ NB272_287.out _; exact zk BK272⟩, ⟨by (with_reducible repeat (first | refine blk_drewN ?_ _ | refine blk_drew ?_ | refine blk_alloc ?_ _)); refine blk_put (cs := #[.bool a0_0, u288001]) ?_ 1 _ rfl; exact zk BK287⟩, ⟨(zb w)⟩⟩
      ·rw [if_neg c77] at H
       exact absurd H (by simp)
     ·rw [if_neg c74] at H
      have c74b0 : decide (x71_1 < (wrap64 ((l1_1.length : Int) + 1))) = false := decide_eq_false c74
      clear c74
      replace H := Option.bind_eq_some_iff.mp H
      obtain ⟨⟨t293, t294⟩, A880, H⟩ := H
      try dsimp only at H
      have A88 := Aside0.mk A880
      clear A880
      simp only [Option.some.injEq, Prod.mk.injEq] at H
      obtain ⟨rfl, rfl⟩ := H
      have hnb89 := NB287_270.out
      have hnc89 := NB270_287.out
      have hnb90 := NB287_271.out
      have hnc90 := NB271_287.out
      have hnb91 := NB287_272.out
      have hnc91 := NB272_287.out
      obtain ⟨hcz92_0, hcz92_1, hfz92_0, hfz92_1⟩ := cz2 BK287
      obtain ⟨Ao93, co93, eo93⟩ := Kd.R_slice HO_288001.out
      subst eo93
      go_wp2_with (first | ((with_reducible refine gC 35 rfl ?_); refine gl_ 96 Tryd.func35 #[.agg #[.bool a0_0, .slice Ao93 x288001_1.length co93]] ?_; (with_reducible refine (interchangeref1_trimmed.calls k1 a0_0 (fun k_ => some k_ = (.slice Ao93 x288001_1.length co93 : Value).ownBlock) _ _ x288001_1 t293 t294 _ ?side1 A88.out).mono ?_); (case side1 => exact Kd.R_V (Kd.R_tight rfl (Kd.R_types (Kd.R_types (Kd.R_types (Kd.R_types (HO_288001.out) BK270.out (by decide)) BK271.out (by decide)) BK272.out (by decide)) BK287.out (by decide)))); rintro e w94 ⟨v295, rfl, ho0, hb⟩; refine ⟨_, rfl, ?_⟩; have HO296 := Aside0.mk (Kd.V_lower (Kd.V_mono (ok' := fun k_ => (w.heap.size ≤ k_) ∧ k_ ≠ gb270 ∧ k_ ≠ gb271 ∧ k_ ≠ gb272 ∧ k_ ≠ gb287) ho0 (fun k_ hk_ => ⟨Or.elim hk_ (fun hs_ => ((Kd.R_types (Kd.R_types (Kd.R_types (Kd.R_types (HO_288001.out) BK270.out (by decide)) BK271.out (by decide)) BK272.out (by decide)) BK287.out (by decide)).1 k_ hs_.symm).1.1.1.1) (fun hn_ => (Nat.le_trans (below_size (zb w)) hn_)), Or.elim hk_ (fun hs_ => ((Kd.R_types (Kd.R_types (Kd.R_types (Kd.R_types (HO_288001.out) BK270.out (by decide)) BK271.out (by decide)) BK272.out (by decide)) BK287.out (by decide)).1 k_ hs_.symm).1.1.1.2) (fun hn_ => (Kd.freshB (g := gb270) (o := .cells #[.bool a0_0, .slice A0_1 l0_1.length c0_1] 40 (0, 0)) (zk BK270) k_ hn_)), Or.elim hk_ (fun hs_ => ((Kd.R_types (Kd.R_types (Kd.R_types (Kd.R_types (HO_288001.out) BK270.out (by decide)) BK271.out (by decide)) BK272.out (by decide)) BK287.out (by decide)).1 k_ hs_.symm).1.1.2) (fun hn_ => (Kd.freshB (g := gb271) (o := .cells #[.bool a1_0, .slice A1_1 l1_1.length c1_1] 40 (0, 0)) (zk BK271) k_ hn_)), Or.elim hk_ (fun hs_ => ((Kd.R_types (Kd.R_types (Kd.R_types (Kd.R_types (HO_288001.out) BK270.out (by decide)) BK271.out (by decide)) BK272.out (by decide)) BK287.out (by decide)).1 k_ hs_.symm).1.2) (fun hn_ => (Kd.freshB (g := gb272) (o := .cells #[.bool false, .slice none 0 0] 40 (0, 0)) (zk BK272) k_ hn_)), Or.elim hk_ (fun hs_ => ((Kd.R_types (Kd.R_types (Kd.R_types (Kd.R_types (HO_288001.out) BK270.out (by decide)) BK271.out (by decide)) BK272.out (by decide)) BK287.out (by decide)).1 k_ hs_.symm).2) (fun hn_ => (Kd.freshB (g := gb287) (o := .cells #[.bool a0_0, .slice Ao93 x288001_1.length co93] 40 (0, 0)) (zk BK287) k_ hn_))⟩)) (below_size (zb w))); replace HO_288001 := rb HO_288001 hb; replace BK270 := bb BK270 hb; replace BK271 := bb BK271 hb; replace BK272 := bb BK272 hb; replace BK287 := bb BK287 hb; replace HB := hs w hb; (try clear hb); (try clear ho0); have hnb95 := NB272_270.out; have hnc95 := NB270_272.out; have hnb96 := NB272_271.out; have hnc96 := NB271_272.out; obtain ⟨hcz97_0, hcz97_1, hfz97_0, hfz97_1⟩ := cz2 BK272; obtain ⟨Ao98, co98, eo98⟩ := Kd.V_slice HO296.out; subst eo98))
      refine bodyPost_ret (results_cell_row rfl _ _ gb272 40 #[.bool t293, .slice Ao98 t294.length co98] (0, 0) _ rfl (by (with_reducible repeat (first | refine blk_drewN ?_ _ | refine blk_drew ?_ | refine blk_alloc ?_ _)); refine blk_put (cs := #[.bool t293, .slice none 0 0]) ?_ 1 _ rfl; (with_reducible repeat (first | refine blk_drewN ?_ _ | refine blk_drew ?_ | refine blk_alloc ?_ _)); refine blk_put (cs := #[.bool false, .slice none 0 0]) ?_ 0 _ rfl; exact zk BK272) Tryd.underlying40 rfl (by kernel_rfl)) rfl ?_
      exact ⟨_, by first | rfl | (simp [errW_none, errW_some] <;> rfl) | (simp [*, errW_none, errW_some] <;> rfl), by (with_reducible repeat (first | apply Kd.V_alloc | apply Kd.V_drewN | apply Kd.V_drew)); exact Kd.V_mono (Kd.V_far (p := ⟨gb272, 1, none⟩) (Kd.V_far (p := ⟨gb272, 0, none⟩) (Kd.V_mono HO296.out (fun k_ hk => (⟨hk, hk.2.2.2.1⟩ : _ ∧ k_ ≠ gb272))) (fun _ hk => hk.2) (.bool t293)) (fun _ hk => hk.2) (.slice Ao98 t294.length co98)) (fun _ hk => hk.1.1), (zb w)⟩
  ·rw [if_neg c58] at H
   have c58i := eq_false c58
   have c58b0 : decide ((l0_1.length : Int) < (l1_1.length : Int)) = false := decide_eq_false c58
   have c58b1 : decide (l0_1.length < l1_1.length) = false := decide_eq_false (fun h => c58 (Int.ofNat_lt.mpr h))
   clear c58
   have H' := Aside0.mk H
   clear H
   go_enter Tryd.func17, Tryd.ntmps17
   go_wp2_with (first | ((with_reducible refine gD 2 rfl ?_); refine bx w 2 #[.bool a0_0, .slice A0_1 l0_1.length c0_1] 40 ?_; intro gb270 hg w99 hb BK270 GW270 GE270; clear HB; intro HB; clear hb hg) | ((with_reducible refine gD 3 rfl ?_); refine bx w 3 #[.bool a1_0, .slice A1_1 l1_1.length c1_1] 40 ?_; intro gb271 hg w100 hb BK271 GW271 GE271; clear HB; intro HB; have NB270_271 := nbl BK270 hg; have NB271_270 := nbr BK270 hg; replace BK270 := bb BK270 hb; clear hb hg) | ((with_reducible refine gD 4 rfl ?_); refine bx w 4 #[.bool false, .slice none 0 0] 40 ?_; intro gb272 hg w101 hb BK272 GW272 GE272; clear HB; intro HB; have NB270_272 := nbl BK270 hg; have NB272_270 := nbr BK270 hg; replace BK270 := bb BK270 hb; have NB271_272 := nbl BK271 hg; have NB272_271 := nbr BK271 hg; replace BK271 := bb BK271 hb; clear hb hg; have hnb102 := NB270_271.out; have hnc102 := NB271_270.out; have hnb103 := NB270_272.out; have hnc103 := NB272_270.out; obtain ⟨hcz104_0, hcz104_1, hfz104_0, hfz104_1⟩ := cz2 BK270; have hnb105 := NB271_272.out; have hnc105 := NB272_271.out; obtain ⟨hcz106_0, hcz106_1, hfz106_0, hfz106_1⟩ := cz2 BK271) | ((with_reducible refine gD 9 rfl ?_); refine bx w 9 #[.bool false, .slice none 0 0] 40 ?_; intro gb287 hg w107 hb BK287 GW287 GE287; clear HB; intro HB; have NB270_287 := nbl BK270 hg; have NB287_270 := nbr BK270 hg; replace BK270 := bb BK270 hb; have NB271_287 := nbl BK271 hg; have NB287_271 := nbr BK271 hg; replace BK271 := bb BK271 hb; have NB272_287 := nbl BK272 hg; have NB287_272 := nbr BK272 hg; replace BK272 := bb BK272 hb; clear hb hg; have hnb108 := NB287_270.out; have hnc108 := NB270_287.out; have hnb109 := NB287_271.out; have hnc109 := NB271_287.out; have hnb110 := NB287_272.out; have hnc110 := NB272_287.out; obtain ⟨hcz111_0, hcz111_1, hfz111_0, hfz111_1⟩ := cz2 BK287; obtain ⟨hcz112_0, hcz112_1, hfz112_0, hfz112_1⟩ := cz2 BK270; obtain ⟨hcz113_0, hcz113_1, hfz113_0, hfz113_1⟩ := cz2 BK271))
   try simp only [sq]
   go_loopg [10, 71] k (fun kq v10 v71 w' => ∃ (x10_1 : Int) (x71_1 : Int) (x288001_1 : List Int) (u288001 : Value), v10 = .int .i64 x10_1 ∧ v71 = .int .i64 x71_1 ∧ Aside0 (interchangeref1_Plus_fo.l1 kq x10_1 (wrap64 ((l0_1.length : Int) + 1)) x71_1 a0_0 l0_1 a1_0 l1_1 a0_0 x288001_1 = some (r1, r2)) ∧ Aside0 (kq ≤ k) ∧ Aside0 (Kd.R (Kd.int .i64) 3 w' w.heap.size (fun k_ => (w.heap.size ≤ k_)) u288001 x288001_1) ∧ Aside0 (w'.heap[gb270]? = some (.cells #[.bool a0_0, (.slice A0_1 l0_1.length c0_1)] 40 (0, 0))) ∧ Aside0 (w'.heap[gb271]? = some (.cells #[.bool a1_0, (.slice A1_1 l1_1.length c1_1)] 40 (0, 0))) ∧ Aside0 (w'.heap[gb272]? = some (.cells #[.bool false, (.slice none 0 0)] 40 (0, 0))) ∧ Aside0 (w'.heap[gb287]? = some (.cells #[.bool a0_0, u288001] 40 (0, 0))) ∧ Aside0 (Below w.heap.size w w'))
   case atStart => exact ⟨(0), (0), (([] : List Int)), (.slice none 0 0), ar, ar, H', ⟨Nat.le_refl _⟩, ⟨by first | exact Kd.R_nil _ _ _ _ _ | exact Kd.N_nil _ _ _ _ _ | exact Kd.V_nil _ _ _ _ _ | exact Kd.Q_nil _ _ _ _ _ | exact Kd.S_nil _ _ _ _ _⟩, ⟨by (with_reducible repeat (first | refine blk_drewN ?_ _ | refine blk_drew ?_ | refine blk_alloc ?_ _)); refine blk_far ?_ NB270_287.out _; (with_reducible repeat (first | refine blk_drewN ?_ _ | refine blk_drew ?_ | refine blk_alloc ?_ _)); refine blk_far ?_ NB270_287.out _; exact zk BK270⟩, ⟨by (with_reducible repeat (first | refine blk_drewN ?_ _ | refine blk_drew ?_ | refine blk_alloc ?_ _)); refine blk_far ?_ NB271_287.out _; (with_reducible repeat (first | refine blk_drewN ?_ _ | refine blk_drew ?_ | refine blk_alloc ?_ _)); refine blk_far ?_ NB271_287.out _; exact zk BK271⟩, ⟨by (with_reducible repeat (first | refine blk_drewN ?_ _ | refine blk_drew ?_ | refine blk_alloc ?_ _)); refine blk_far ?_ NB272_287.out _; (with_reducible repeat (first | refine blk_drewN ?_ _ | refine blk_drew ?_ | refine blk_alloc ?_ _)); refine blk_far ?_ NB272_287.out _; exact zk BK272⟩, ⟨by (with_reducible repeat (first | refine blk_drewN ?_ _ | refine blk_drew ?_ | refine blk_alloc ?_ _)); refine blk_put (cs := #[.bool a0_0, .slice none 0 0]) ?_ 1 _ rfl; (with_reducible repeat (first | refine blk_drewN ?_ _ | refine blk_drew ?_ | refine blk_alloc ?_ _)); refine blk_put (cs := #[.bool false, .slice none 0 0]) ?_ 0 _ rfl; exact zk BK287⟩, ⟨(zb w)⟩⟩
   case round =>
    clear H'
    try clear c1
    try clear c2
    try clear p2
    try clear q2
    try clear hx2
    try clear c3
    try clear c3b0
    try clear c4
    try clear c5
    try clear c5b0
    try clear c6
    try clear p6
    try clear c7
    try clear c8
    try clear c9
    try clear c10
    try clear c11
    try clear c12
    try clear c17
    try clear c18
    try clear c19
    try clear c22
    try clear c22b0
    try clear c23
    try clear c23b0
    try clear c24
    try clear c24b0
    try clear c26
    try clear c26b0
    try clear c27
    try clear p27
    try clear q27
    try clear hx27
    try clear c30
    try clear c31
    try clear c32
    try clear c33
    try clear c34
    try clear c35
    try clear c37
    try clear c40
    try clear c41
    try clear c42
    try clear c48
    try clear c49
    try clear c50
    try clear c54
    try clear c55
    try clear c58
    try clear c58b0
    try clear c58b1
    try clear c62
    try clear c63
    try clear p64
    try clear c65
    try clear c68
    try clear c69
    try clear c70
    try clear c74
    try clear c74b0
    try clear c77
    try clear c81
    try clear c82
    try clear c83
    try clear c89
    try clear c90
    try clear c91
    try clear c95
    try clear c96
    try clear c102
    try clear c103
    try clear c105
    try clear c108
    try clear c109
    try clear c110
    try clear hcz104_0 hcz104_1
    try clear hcz106_0 hcz106_1
    try clear hcz111_0 hcz111_1
    try clear hcz112_0 hcz112_1
    try clear hcz113_0 hcz113_1
    try clear hcz11_0 hcz11_1
    try clear hcz13_0 hcz13_1
    try clear hcz15_0 hcz15_1
    try clear hcz20_0 hcz20_1
    try clear hcz21_0 hcz21_1
    try clear hcz33_0 hcz33_1
    try clear hcz36_0 hcz36_1
    try clear hcz43_0 hcz43_1
    try clear hcz46_0 hcz46_1
    try clear hcz51_0 hcz51_1
    try clear hcz56_0 hcz56_1
    try clear hcz64_0 hcz64_1
    try clear hcz66_0 hcz66_1
    try clear hcz71_0 hcz71_1
    try clear hcz72_0 hcz72_1
    try clear hcz73_0 hcz73_1
    try clear hcz84_0 hcz84_1
    try clear hcz87_0 hcz87_1
    try clear hcz92_0 hcz92_1
    try clear hcz97_0 hcz97_1
    try clear hfz104_0 hfz104_1
    try clear hfz106_0 hfz106_1
    try clear hfz111_0 hfz111_1
    try clear hfz112_0 hfz112_1
    try clear hfz113_0 hfz113_1
    try clear hfz11_0 hfz11_1
    try clear hfz13_0 hfz13_1
    try clear hfz15_0 hfz15_1
    try clear hfz20_0 hfz20_1
    try clear hfz21_0 hfz21_1
    try clear hfz33_0 hfz33_1
    try clear hfz36_0 hfz36_1
    try clear hfz43_0 hfz43_1
    try clear hfz46_0 hfz46_1
    try clear hfz51_0 hfz51_1
    try clear hfz56_0 hfz56_1
    try clear hfz64_0 hfz64_1
    try clear hfz66_0 hfz66_1
    try clear hfz71_0 hfz71_1
    try clear hfz72_0 hfz72_1
    try clear hfz73_0 hfz73_1
    try clear hfz84_0 hfz84_1
    try clear hfz87_0 hfz87_1
    try clear hfz92_0 hfz92_1
    try clear hfz97_0 hfz97_1
    try clear hx275_0
    try clear p2
    try clear p27
    try clear p275
    try clear p6
    try clear p64
    try clear q2
    try clear q27
    try clear q275
    obtain ⟨x10_1, x71_1, x288001_1, u288001, rfl, rfl, HA, HK1, HO_288001, BK270, BK271, BK272, BK287, HB⟩ := hrel
    cases gk with
    | zero => exact absurd HA.out (by simp [interchangeref1_Plus_fo.l1])
    | succ k1 =>
     have H := HA.out
     clear HA
     simp only [interchangeref1_Plus_fo.l1] at H
     by_cases c114 : x71_1 < (wrap64 ((l0_1.length : Int) + 1))
     ·rw [if_pos c114] at H
      have c114b0 : decide (x71_1 < (wrap64 ((l0_1.length : Int) + 1))) = true := decide_eq_true c114
      clear c114
      replace H := Option.bind_eq_some_iff.mp H
      obtain ⟨t288, A1150, H⟩ := H
      try dsimp only at H
      have A115 := Aside0.mk A1150
      clear A1150
      replace H := Option.bind_eq_some_iff.mp H
      obtain ⟨t289, A1160, H⟩ := H
      try dsimp only at H
      have A116 := Aside0.mk A1160
      clear A1160
      by_cases c117 : x288001_1.length < 17592186044416
      ·rw [if_pos c117] at H
       have LMc117 := Aside0.mk c117
       clear c117
       obtain ⟨y290, hy290⟩ : ∃ y_ : List Int, y_ = (x288001_1 ++ [Int.tmod (wrap64 ((wrap64 (t288 + t289)) + x10_1)) 1000000]) := ⟨_, rfl⟩
       replace H : (interchangeref1_Plus_fo.l1 k1 (wrap64 (Int.tdiv (wrap64 ((wrap64 (t288 + t289)) + x10_1)) 1000000)) (wrap64 ((l0_1.length : Int) + 1)) (wrap64 (x71_1 + 1)) a0_0 l0_1 a1_0 l1_1 a0_0 y290) = some (r1, r2) := by first | (rw [hy290]; with_reducible exact H) | (have H2_ := (Option.bind_some _ _).symm.trans H; rw [hy290]; with_reducible exact H2_) | (have H2_ := (Option.bind_some _ _).symm.trans H; with_reducible exact H2_) | with_reducible exact H | (rw [hy290]; exact H) | exact H
       have Ny290 := Aside0.mk hy290
       clear hy290
       have H' := Aside0.mk H
       clear H
       try go_wp2
       have n0_ := Aside0.mk (Kd.R_drew HO_288001.out)
       have n1_ := Aside0.mk (blk_drew BK270.out)
       have n2_ := Aside0.mk (blk_drew BK271.out)
       have n3_ := Aside0.mk (blk_drew BK272.out)
       have n4_ := Aside0.mk (blk_drew BK287.out)
       have n5_ := Aside0.mk (below_drew1 HB.out)
       clear HO_288001
       clear BK270
       clear BK271
       clear BK272
       clear BK287
       clear HB
       have HO_288001 := n0_
       have BK270 := n1_
       have BK271 := n2_
       have BK272 := n3_
       have BK287 := n4_
       have HB := n5_
       clear n0_ n1_ n2_ n3_ n4_ n5_
       refine start_ (n := 12) (S := fun w' => w'.cell? ⟨gb270, 0, none⟩ = some (.bool a0_0) ∧ w'.cell? ⟨gb270, 1, none⟩ = some (.slice A0_1 l0_1.length c0_1) ∧ w'.cell? ⟨gb271, 0, none⟩ = some (.bool a1_0) ∧ w'.cell? ⟨gb271, 1, none⟩ = some (.slice A1_1 l1_1.length c1_1)) (ds := []) (bm 12 0) (by kernel_rfl) rfl rfl ⟨(blk_cell BK270.out 0).trans rfl, (blk_cell BK270.out 1).trans rfl, (blk_cell BK271.out 0).trans rfl, (blk_cell BK271.out 1).trans rfl⟩ (fun hHeld => ?_); refine with_tabW interchangeref1_Plus_fo.tab21 interchangeref1_Plus_fo.bits21 (fun HT_ HW_ => ?_)
       generalize wr.drew = w118 at HO_288001 BK270 BK271 BK272 BK287 HB hHeld ⊢
       refine pu 0 74 (bm 12 1) HT_ ?_
       refine pu 2 76 (bm 12 5) HT_ ?_
       refine pu 4 78 (bm 12 21) HT_ ?_
       refine pu 6 80 (bm 12 85) HT_ ?_
       refine pu 9 83 (bm 12 597) HT_ ?_
       refine ta4 1 75 (bm 12 599) HT_ HW_ hHeld ?_
       refine ta4 5 79 (bm 12 631) HT_ HW_ hHeld ?_
       refine one_ (i := 3) (N := some 77) (bm 12 639) rfl rfl (one_of HT_.out (by kernel_rfl)) (by decide) (fun K hK => ?_)
       refine gs Tryd.func34 #[.slice A0_1 l0_1.length c0_1, .int .i64 x71_1] ?_
       with_reducible refine (interchangeref1_digit.calls _ _ l0_1 x71_1 t288 _ (zc HR0_1) HC0_1.out A115.out).mono ?_
       rintro e w119 ⟨rfl, hb⟩
       refine ⟨_, rfl, ?_⟩
       have n0_ := rb HO_288001 hb
       have n1_ := bb BK270 hb
       have n2_ := bb BK271 hb
       have n3_ := bb BK272 hb
       have n4_ := bb BK287 hb
       have n5_ := hs w hb
       clear HO_288001
       clear BK270
       clear BK271
       clear BK272
       clear BK287
       clear HB
       have HO_288001 := n0_
       have BK270 := n1_
       have BK271 := n2_
       have BK272 := n3_
       have BK287 := n4_
       have HB := n5_
       clear n0_ n1_ n2_ n3_ n4_ n5_
       (try clear hb)
       (try clear hb2)
       (try clear hk)
       (try clear hi)
       refine hK.out _ _ ⟨(blk_cell BK270.out 0).trans rfl, (blk_cell BK270.out 1).trans rfl, (blk_cell BK271.out 0).trans rfl, (blk_cell BK271.out 1).trans rfl⟩ (fun hHeld => ?_)
       clear hK K
       refine norm_ (a' := ?_) ?_ ?_
       rotate_left
       ·show Act.put _ (some 77) _ = _
        simp only [sq, i64_w, i32_w]
        rfl
       refine one_ (i := 7) (N := some 81) (bm 12 767) rfl rfl (one_of HT_.out (by kernel_rfl)) (by decide) (fun K hK => ?_)
       refine gs Tryd.func34 #[.slice A1_1 l1_1.length c1_1, .int .i64 x71_1] ?_
       with_reducible refine (interchangeref1_digit.calls _ _ l1_1 x71_1 t289 _ (zc HR1_1) HC1_1.out A116.out).mono ?_
       rintro e w120 ⟨rfl, hb⟩
       refine ⟨_, rfl, ?_⟩
       have n0_ := rb HO_288001 hb
       have n1_ := bb BK270 hb
       have n2_ := bb BK271 hb
       have n3_ := bb BK272 hb
       have n4_ := bb BK287 hb
       have n5_ := hs w hb
       clear HO_288001
       clear BK270
       clear BK271
       clear BK272
       clear BK287
       clear HB
       have HO_288001 := n0_
       have BK270 := n1_
       have BK271 := n2_
       have BK272 := n3_
       have BK287 := n4_
       have HB := n5_
       clear n0_ n1_ n2_ n3_ n4_ n5_
       (try clear hb)
       (try clear hb2)
       (try clear hk)
       (try clear hi)
       refine hK.out _ _ ⟨(blk_cell BK270.out 0).trans rfl, (blk_cell BK270.out 1).trans rfl, (blk_cell BK271.out 0).trans rfl, (blk_cell BK271.out 1).trans rfl⟩ (fun hHeld => ?_)
       clear hK K
       refine norm_ (a' := ?_) ?_ ?_
       rotate_left
       ·show Act.put _ (some 81) _ = _
        simp only [sq, i64_w, i32_w]
        rfl
       refine pu 8 82 (bm 12 1023) HT_ ?_
       refine pu 10 84 (bm 12 2047) HT_ ?_
       refine pu 11 12 (bm 12 4095) HT_ ?_
       refine done_ (done_of HT_.out (by kernel_rfl)) ?_
       have hnb121 := NB287_270.out
       have hnc121 := NB270_287.out
       have hnb122 := NB287_271.out
       have hnc122 := NB271_287.out
       have hnb123 := NB287_272.out
       have hnc123 := NB272_287.out
       obtain ⟨hcz124_0, hcz124_1, hfz124_0, hfz124_1⟩ := cz2 BK287
       try go_wp2_with (first | ((with_reducible refine gate_builtin (b := .append) (xs := #[.tmp 86, .tmp 89]) rfl ?_); at_builtin; refine Kd.R_append (Kd.int .i64) (w0 := w) w.heap.size rfl (.tmp 86) (.tmp 89) 38 3 (.int .i64 0) 8 rfl Tryd.underlying38 info3 rfl (by decide) (by omega) u288001 x288001_1 (Int.tmod (wrap64 ((wrap64 (t288 + t289)) + x10_1)) 1000000) [.int .i64 (Int.tmod (wrap64 ((wrap64 (t288 + t289)) + x10_1)) 1000000)] (fun k_ => (w.heap.size ≤ k_)) (fun _ => False) rfl rfl ?aP (fun _ hk => hk.elim) ?aF ?aO ?aB ?aS ?aL ?_; (case aP => exact rfl); (case aB => exact (zb w)); (case aF => exact (fun k_ hk => (Nat.le_trans (below_size (zb w)) hk))); (case aO => exact (zo HO_288001)); (case aS => exact (below_size (zb w))); (case aL => have := LMc117.out; omega); intro v291 w125 ho hb hg hat; rw [← Ny290.out] at ho; replace BK270 := Aside0.mk (blk_grown (g := gb270) (o := .cells #[.bool a0_0, .slice A0_1 l0_1.length c0_1] 40 (0, 0)) (zk BK270) hg (Kd.R_ne HO_288001.out BK270.out (by decide))); replace BK271 := Aside0.mk (blk_grown (g := gb271) (o := .cells #[.bool a1_0, .slice A1_1 l1_1.length c1_1] 40 (0, 0)) (zk BK271) hg (Kd.R_ne HO_288001.out BK271.out (by decide))); replace BK272 := Aside0.mk (blk_grown (g := gb272) (o := .cells #[.bool false, .slice none 0 0] 40 (0, 0)) (zk BK272) hg (Kd.R_ne HO_288001.out BK272.out (by decide))); replace BK287 := Aside0.mk (blk_grown (g := gb287) (o := .cells #[.bool a0_0, u288001] 40 (0, 0)) (zk BK287) hg (Kd.R_ne HO_288001.out BK287.out (by decide))); replace HB := Aside0.mk (hb); have HO292 := Aside0.mk (ho); clear HO_288001; clear ho hb hg hat; obtain ⟨Ao126, co126, eo126⟩ := Kd.R_slice HO292.out; subst eo126; obtain ⟨hcz127_0, hcz127_1, hfz127_0, hfz127_1⟩ := cz2 BK287))
       go_roundg k1
       case measure => have := HK1.out; omega
       case rel => exact ⟨(wrap64 (Int.tdiv (wrap64 ((wrap64 (t288 + t289)) + x10_1)) 1000000)), (wrap64 (x71_1 + 1)), (y290), (.slice Ao126 y290.length co126), ar, ar, H', ⟨by have := HK1.out; omega⟩, ⟨by (with_reducible repeat (first | apply Kd.R_alloc | apply Kd.R_drewN | apply Kd.R_drew)); exact Kd.R_mono (Kd.R_far (p := ⟨gb287, 1, none⟩) (Kd.R_types HO292.out BK287.out (by decide)) (fun _ hk => hk.2) (.slice Ao126 y290.length co126)) (fun _ hk => hk.1)⟩, ⟨by (with_reducible repeat (first | refine blk_drewN ?_ _ | refine blk_drew ?_ | refine blk_alloc ?_ _)); refine blk_far ?_ NB270_287.out _; exact zk BK270⟩, ⟨by (with_reducible repeat (first | refine blk_drewN ?_ _ | refine blk_drew ?_ | refine blk_alloc ?_ _)); refine blk_far ?_ NB271_287.out _; exact zk BK271⟩, ⟨by (with_reducible repeat (first | refine blk_drewN ?_ _ | refine blk_drew ?_ | refine blk_alloc ?_ _)); refine blk_far ?_ NB272_287.out _; exact zk BK272⟩, ⟨by (with_reducible repeat (first | refine blk_drewN ?_ _ | refine blk_drew ?_ | refine blk_alloc ?_ _)); refine blk_put (cs := #[.bool a0_0, u288001]) ?_ 1 _ rfl; exact zk BK287⟩, ⟨(zb w)⟩⟩
      ·rw [if_neg c117] at H
       exact absurd H (by simp)
     ·rw [if_neg c114] at H
      have c114b0 : decide (x71_1 < (wrap64 ((l0_1.length : Int) + 1))) = false := decide_eq_false c114
      clear c114
      replace H := Option.bind_eq_some_iff.mp H
      obtain ⟨⟨t293, t294⟩, A1280, H⟩ := H
      try dsimp only at H
      have A128 := Aside0.mk A1280
      clear A1280
      simp only [Option.some.injEq, Prod.mk.injEq] at H
      obtain ⟨rfl, rfl⟩ := H
      have hnb129 := NB287_270.out
      have hnc129 := NB270_287.out
      have hnb130 := NB287_271.out
      have hnc130 := NB271_287.out
      have hnb131 := NB287_272.out
      have hnc131 := NB272_287.out
      obtain ⟨hcz132_0, hcz132_1, hfz132_0, hfz132_1⟩ := cz2 BK287
      obtain ⟨Ao133, co133, eo133⟩ := Kd.R_slice HO_288001.out
      subst eo133
      go_wp2_with (first | ((with_reducible refine gC 35 rfl ?_); refine gl_ 96 Tryd.func35 #[.agg #[.bool a0_0, .slice Ao133 x288001_1.length co133]] ?_; (with_reducible refine (interchangeref1_trimmed.calls k1 a0_0 (fun k_ => some k_ = (.slice Ao133 x288001_1.length co133 : Value).ownBlock) _ _ x288001_1 t293 t294 _ ?side1 A128.out).mono ?_); (case side1 => exact Kd.R_V (Kd.R_tight rfl (Kd.R_types (Kd.R_types (Kd.R_types (Kd.R_types (HO_288001.out) BK270.out (by decide)) BK271.out (by decide)) BK272.out (by decide)) BK287.out (by decide)))); rintro e w134 ⟨v295, rfl, ho0, hb⟩; refine ⟨_, rfl, ?_⟩; have HO296 := Aside0.mk (Kd.V_lower (Kd.V_mono (ok' := fun k_ => (w.heap.size ≤ k_) ∧ k_ ≠ gb270 ∧ k_ ≠ gb271 ∧ k_ ≠ gb272 ∧ k_ ≠ gb287) ho0 (fun k_ hk_ => ⟨Or.elim hk_ (fun hs_ => ((Kd.R_types (Kd.R_types (Kd.R_types (Kd.R_types (HO_288001.out) BK270.out (by decide)) BK271.out (by decide)) BK272.out (by decide)) BK287.out (by decide)).1 k_ hs_.symm).1.1.1.1) (fun hn_ => (Nat.le_trans (below_size (zb w)) hn_)), Or.elim hk_ (fun hs_ => ((Kd.R_types (Kd.R_types (Kd.R_types (Kd.R_types (HO_288001.out) BK270.out (by decide)) BK271.out (by decide)) BK272.out (by decide)) BK287.out (by decide)).1 k_ hs_.symm).1.1.1.2) (fun hn_ => (Kd.freshB (g := gb270) (o := .cells #[.bool a0_0, .slice A0_1 l0_1.length c0_1] 40 (0, 0)) (zk BK270) k_ hn_)), Or.elim hk_ (fun hs_ => ((Kd.R_types (Kd.R_types (Kd.R_types (Kd.R_types (HO_288001.out) BK270.out (by decide)) BK271.out (by decide)) BK272.out (by decide)) BK287.out (by decide)).1 k_ hs_.symm).1.1.2) (fun hn_ => (Kd.freshB (g := gb271) (o := .cells #[.bool a1_0, .slice A1_1 l1_1.length c1_1] 40 (0, 0)) (zk BK271) k_ hn_)), Or.elim hk_ (fun hs_ => ((Kd.R_types (Kd.R_types (Kd.R_types (Kd.R_types (HO_288001.out) BK270.out (by decide)) BK271.out (by decide)) BK272.out (by decide)) BK287.out (by decide)).1 k_ hs_.symm).1.2) (fun hn_ => (Kd.freshB (g := gb272) (o := .cells #[.bool false, .slice none 0 0] 40 (0, 0)) (zk BK272) k_ hn_)), Or.elim hk_ (fun hs_ => ((Kd.R_types (Kd.R_types (Kd.R_types (Kd.R_types (HO_288001.out) BK270.out (by decide)) BK271.out (by decide)) BK272.out (by decide)) BK287.out (by decide)).1 k_ hs_.symm).2) (fun hn_ => (Kd.freshB (g := gb287) (o := .cells #[.bool a0_0, .slice Ao133 x288001_1.length co133] 40 (0, 0)) (zk BK287) k_ hn_))⟩)) (below_size (zb w))); replace HO_288001 := rb HO_288001 hb; replace BK270 := bb BK270 hb; replace BK271 := bb BK271 hb; replace BK272 := bb BK272 hb; replace BK287 := bb BK287 hb; replace HB := hs w hb; (try clear hb); (try clear ho0); have hnb135 := NB272_270.out; have hnc135 := NB270_272.out; have hnb136 := NB272_271.out; have hnc136 := NB271_272.out; obtain ⟨hcz137_0, hcz137_1, hfz137_0, hfz137_1⟩ := cz2 BK272; obtain ⟨Ao138, co138, eo138⟩ := Kd.V_slice HO296.out; subst eo138))
      refine bodyPost_ret (results_cell_row rfl _ _ gb272 40 #[.bool t293, .slice Ao138 t294.length co138] (0, 0) _ rfl (by (with_reducible repeat (first | refine blk_drewN ?_ _ | refine blk_drew ?_ | refine blk_alloc ?_ _)); refine blk_put (cs := #[.bool t293, .slice none 0 0]) ?_ 1 _ rfl; (with_reducible repeat (first | refine blk_drewN ?_ _ | refine blk_drew ?_ | refine blk_alloc ?_ _)); refine blk_put (cs := #[.bool false, .slice none 0 0]) ?_ 0 _ rfl; exact zk BK272) Tryd.underlying40 rfl (by kernel_rfl)) rfl ?_
      exact ⟨_, by first | rfl | (simp [errW_none, errW_some] <;> rfl) | (simp [*, errW_none, errW_some] <;> rfl), by (with_reducible repeat (first | apply Kd.V_alloc | apply Kd.V_drewN | apply Kd.V_drew)); exact Kd.V_mono (Kd.V_far (p := ⟨gb272, 1, none⟩) (Kd.V_far (p := ⟨gb272, 0, none⟩) (Kd.V_mono HO296.out (fun k_ hk => (⟨hk, hk.2.2.2.1⟩ : _ ∧ k_ ≠ gb272))) (fun _ hk => hk.2) (.bool t293)) (fun _ hk => hk.2) (.slice Ao138 t294.length co138)) (fun _ hk => hk.1.1), (zb w)⟩

/-! ### interchangeref1_Plus_th: function 17 -/
mutual
def interchangeref1_Plus_th.l0 : Nat → Int → Int → Int → Bool → List Int → Bool → List Int → Bool → List Int → Option (Bool × List Int)
 | 0, _, _, _, _, _, _, _, _, _ => none
 | k + 1, x6, x31, x32, x298000, x298001, x299000, x299001, x302000, x302001 => if x32 < x31 then (if 0 ≤ x32 then (if x32 < (x298001.length : Int) then ((interchangeref1_digit.f x299001 x32).bind fun t303 => (if (wrap64 ((wrap64 ((rd x298001 x32) - t303)) - x6)) < 0 then (if x302001.length < 17592186044416 then (interchangeref1_Plus_th.l0 k 1 x31 (wrap64 (x32 + 1)) x298000 x298001 x299000 x299001 x302000 (x302001 ++ [wrap64 ((wrap64 ((wrap64 ((rd x298001 x32) - t303)) - x6)) + 1000000)])) else (none)) else (if x302001.length < 17592186044416 then (interchangeref1_Plus_th.l0 k 0 x31 (wrap64 (x32 + 1)) x298000 x298001 x299000 x299001 x302000 (x302001 ++ [wrap64 ((wrap64 ((rd x298001 x32) - t303)) - x6)])) else (none)))) else (none)) else (none)) else ((interchangeref1_trimmed.f k x302000 x302001).bind fun bt310 => (some (bt310.1, bt310.2)))
def interchangeref1_Plus_th.l1 : Nat → Int → Int → Int → Bool → List Int → Bool → List Int → Bool → List Int → Option (Bool × List Int)
 | 0, _, _, _, _, _, _, _, _, _ => none
 | k + 1, x10, x70, x71, x298000, x298001, x299000, x299001, x315000, x315001 => if x71 < x70 then ((interchangeref1_digit.f x298001 x71).bind fun t315 => ((interchangeref1_digit.f x299001 x71).bind fun t316 => (if x315001.length < 17592186044416 then (interchangeref1_Plus_th.l1 k (wrap64 (Int.tdiv (wrap64 ((wrap64 (t315 + t316)) + x10)) 1000000)) x70 (wrap64 (x71 + 1)) x298000 x298001 x299000 x299001 x315000 (x315001 ++ [Int.tmod (wrap64 ((wrap64 (t315 + t316)) + x10)) 1000000])) else (none)))) else ((interchangeref1_trimmed.f k x315000 x315001).bind fun bt320 => (some (bt320.1, bt320.2)))
end
def interchangeref1_Plus_th.f (k : Nat) (a0_0 : Bool) (l0_1 : List Int) (a1_0 : Bool) (l1_1 : List Int) : Option (Bool × List Int) := if (!(a0_0 == a1_0)) = true then ((interchangeref1_sizes.f k l0_1 l1_1).bind fun t300 => (if t300 < 0 then (interchangeref1_Plus_th.l0 k 0 (l1_1.length : Int) 0 a1_0 l1_1 a0_0 l0_1 a1_0 ([] : List Int)) else (none))) else (if (l0_1.length : Int) < (l1_1.length : Int) then (interchangeref1_Plus_th.l1 k 0 (wrap64 ((l1_1.length : Int) + 1)) 0 a0_0 l0_1 a1_0 l1_1 a0_0 ([] : List Int)) else (interchangeref1_Plus_th.l1 k 0 (wrap64 ((l0_1.length : Int) + 1)) 0 a0_0 l0_1 a1_0 l1_1 a0_0 ([] : List Int)))
theorem interchangeref1_Plus_th.mono_l : ∀ k, (∀ y0 y1 y2 y3 y4 y5 y6 y7 y8, LeO (interchangeref1_Plus_th.l0 k y0 y1 y2 y3 y4 y5 y6 y7 y8) (interchangeref1_Plus_th.l0 (k + 1) y0 y1 y2 y3 y4 y5 y6 y7 y8)) ∧ (∀ y0 y1 y2 y3 y4 y5 y6 y7 y8, LeO (interchangeref1_Plus_th.l1 k y0 y1 y2 y3 y4 y5 y6 y7 y8) (interchangeref1_Plus_th.l1 (k + 1) y0 y1 y2 y3 y4 y5 y6 y7 y8))
 | 0 => ⟨fun _ _ _ _ _ _ _ _ _ r h => by simp [interchangeref1_Plus_th.l0] at h, fun _ _ _ _ _ _ _ _ _ r h => by simp [interchangeref1_Plus_th.l1] at h⟩
 | k + 1 => by
  obtain ⟨ih0, ih1⟩ := interchangeref1_Plus_th.mono_l k
  refine ⟨?_, ?_⟩
  ·intro y0 y1 y2 y3 y4 y5 y6 y7 y8
   unfold interchangeref1_Plus_th.l0
   repeat' first | with_reducible first | exact ih0 _ _ _ _ _ _ _ _ _ | exact ih1 _ _ _ _ _ _ _ _ _ | exact interchangeref1_sizes.mono _ _ _ | exact interchangeref1_trimmed.mono _ _ _ | exact lr _ | exact ln _ | refine li ?_ ?_ | refine lb ?_ fun _ => ?_ | exact ih0 _ _ _ _ _ _ _ _ _ | exact ih1 _ _ _ _ _ _ _ _ _ | exact interchangeref1_sizes.mono _ _ _ | exact interchangeref1_trimmed.mono _ _ _ | exact ln _ | refine li ?_ ?_ | refine lb ?_ fun _ => ?_
  ·intro y0 y1 y2 y3 y4 y5 y6 y7 y8
   unfold interchangeref1_Plus_th.l1
   repeat' first | with_reducible first | exact ih0 _ _ _ _ _ _ _ _ _ | exact ih1 _ _ _ _ _ _ _ _ _ | exact interchangeref1_sizes.mono _ _ _ | exact interchangeref1_trimmed.mono _ _ _ | exact lr _ | exact ln _ | refine li ?_ ?_ | refine lb ?_ fun _ => ?_ | exact ih0 _ _ _ _ _ _ _ _ _ | exact ih1 _ _ _ _ _ _ _ _ _ | exact interchangeref1_sizes.mono _ _ _ | exact interchangeref1_trimmed.mono _ _ _ | exact ln _ | refine li ?_ ?_ | refine lb ?_ fun _ => ?_
theorem interchangeref1_Plus_th.mono : ∀ a0 a1 a2 a3 k, LeO (interchangeref1_Plus_th.f k a0 a1 a2 a3) (interchangeref1_Plus_th.f (k + 1) a0 a1 a2 a3) := by
 intro a0 a1 a2 a3 k
 obtain ⟨ih0, ih1⟩ := interchangeref1_Plus_th.mono_l k
 unfold interchangeref1_Plus_th.f
 repeat' first | with_reducible first | exact ih0 _ _ _ _ _ _ _ _ _ | exact ih1 _ _ _ _ _ _ _ _ _ | exact interchangeref1_sizes.mono _ _ _ | exact interchangeref1_trimmed.mono _ _ _ | exact lr _ | exact ln _ | refine li ?_ ?_ | refine lb ?_ fun _ => ?_ | exact ih0 _ _ _ _ _ _ _ _ _ | exact ih1 _ _ _ _ _ _ _ _ _ | exact interchangeref1_sizes.mono _ _ _ | exact interchangeref1_trimmed.mono _ _ _ | exact ln _ | refine li ?_ ?_ | refine lb ?_ fun _ => ?_
def interchangeref1_Plus_th.T9 : Bool × List (List Nat × List Nat) := (true, [([], []), ([0], [0]), ([], []), ([1, 2], [1, 2]), ([3], [3]), ([], []), ([5], [5]), ([], []), ([6, 7], [6, 7]), ([4, 8], [4, 8]), ([], []), ([9, 10], [9, 10]), ([11, 8, 0, 1, 2, 3, 4, 5, 6, 7, 8, 9, 10, 11], [11])])
def interchangeref1_Plus_th.B9 : List Nat := [0, 1, 0, 7, 15, 0, 32, 0, 224, 511, 0, 2047, 4095]
theorem interchangeref1_Plus_th.tab9 : rtab .any (opsOf Tryd.f17 9) = interchangeref1_Plus_th.T9 := by kernel_rfl
theorem interchangeref1_Plus_th.bits9 : waitsOk interchangeref1_Plus_th.T9.2 interchangeref1_Plus_th.B9 = true := by kernel_rfl
def interchangeref1_Plus_th.T21 : Bool × List (List Nat × List Nat) := (true, [([], []), ([0], [0]), ([], []), ([1, 2], [1, 2]), ([], []), ([4], [4]), ([], []), ([5, 6, 3], [5, 6]), ([3, 7], [3, 7]), ([], []), ([8, 9], [8, 9]), ([10, 7, 0, 1, 2, 3, 4, 5, 6, 7, 8, 9, 10], [10])])
def interchangeref1_Plus_th.B21 : List Nat := [0, 1, 0, 7, 0, 16, 0, 127, 255, 0, 1023, 2047]
theorem interchangeref1_Plus_th.tab21 : rtab .any (opsOf Tryd.f17 21) = interchangeref1_Plus_th.T21 := by kernel_rfl
theorem interchangeref1_Plus_th.bits21 : waitsOk interchangeref1_Plus_th.T21.2 interchangeref1_Plus_th.B21 = true := by kernel_rfl
set_option maxHeartbeats 8000000 in
set_option maxRecDepth 100000 in
theorem interchangeref1_Plus_th.calls (k : Nat) (a0_0 : Bool) (A0_1 : Option Addr) (c0_1 : Nat) (l0_1 : List Int) (a1_0 : Bool) (A1_1 : Option Addr) (c1_1 : Nat) (l1_1 : List Int) (r1 : Bool) (r2 : List Int) (w : World) (hr0_1 : Kd.C (Kd.int .i64) w A0_1 l0_1.length l0_1) (hc0_1 : l0_1.length ≤ c0_1) (hr1_1 : Kd.C (Kd.int .i64) w A1_1 l1_1.length l1_1) (hc1_1 : l1_1.length ≤ c1_1) (h : interchangeref1_Plus_th.f k a0_0 l0_1 a1_0 l1_1 = some (r1, r2)) :
  Calls Tryd.prog 17 #[.agg #[.bool a0_0, .slice A0_1 l0_1.length c0_1], .agg #[.bool a1_0, .slice A1_1 l1_1.length c1_1]] w fun e w' => ∃ v1_ : Value, e = .returned (.agg #[.bool r1, v1_]) ∧ Kd.V (Kd.int .i64) 3 w' w.heap.size (fun k_ => (w.heap.size ≤ k_)) v1_ r2 ∧ Below w.heap.size w w' := by
 have hu40 := Tryd.underlying40
 have HR0_1 := Aside0.mk hr0_1
 have HC0_1 := Aside0.mk hc0_1
 clear hr0_1 hc0_1
 have HR1_1 := Aside0.mk hr1_1
 have HC1_1 := Aside0.mk hc1_1
 clear hr1_1 hc1_1
 have HB := Aside0.mk (Below.refl w.heap.size w)
 have H := h
 unfold interchangeref1_Plus_th.f at H
 clear h
 by_cases c3 : (!(a0_0 == a1_0)) = true
 ·rw [if_pos c3] at H
  have c3b0 : (!(a0_0 == a1_0)) = true := c3
  clear c3
  replace H := Option.bind_eq_some_iff.mp H
  obtain ⟨t300, A40, H⟩ := H
  try dsimp only at H
  have A4 := Aside0.mk A40
  clear A40
  by_cases c5 : t300 < 0
  ·rw [if_pos c5] at H
   have c5b0 : decide (t300 < 0) = true := decide_eq_true c5
   clear c5
   have H' := Aside0.mk H
   clear H
   go_enter Tryd.func17, Tryd.ntmps17
   go_wp2_with (first | ((with_reducible refine gD 2 rfl ?_); refine bx w 2 #[.bool a0_0, .slice A0_1 l0_1.length c0_1] 40 ?_; intro gb297 hg w6 hb BK297 GW297 GE297; clear HB; intro HB; clear hb hg) | ((with_reducible refine gD 3 rfl ?_); refine bx w 3 #[.bool a1_0, .slice A1_1 l1_1.length c1_1] 40 ?_; intro gb298 hg w7 hb BK298 GW298 GE298; clear HB; intro HB; have NB297_298 := nbl BK297 hg; have NB298_297 := nbr BK297 hg; replace BK297 := bb BK297 hb; clear hb hg) | ((with_reducible refine gD 4 rfl ?_); refine bx w 4 #[.bool false, .slice none 0 0] 40 ?_; intro gb299 hg w8 hb BK299 GW299 GE299; clear HB; intro HB; have NB297_299 := nbl BK297 hg; have NB299_297 := nbr BK297 hg; replace BK297 := bb BK297 hb; have NB298_299 := nbl BK298 hg; have NB299_298 := nbr BK298 hg; replace BK298 := bb BK298 hb; clear hb hg; have hnb9 := NB297_298.out; have hnc9 := NB298_297.out; have hnb10 := NB297_299.out; have hnc10 := NB299_297.out; obtain ⟨hcz11_0, hcz11_1, hfz11_0, hfz11_1⟩ := cz2 BK297; have hnb12 := NB298_299.out; have hnc12 := NB299_298.out; obtain ⟨hcz13_0, hcz13_1, hfz13_0, hfz13_1⟩ := cz2 BK298) | ((with_reducible refine gC 33 rfl ?_); refine gl_ 22 Tryd.func33 #[.slice A0_1 l0_1.length c0_1, .slice A1_1 l1_1.length c1_1] ?_; (with_reducible refine (interchangeref1_sizes.calls k _ _ l0_1 _ _ l1_1 t300 _ (zc HR0_1) HC0_1.out (zc HR1_1) HC1_1.out A4.out).mono ?_); rintro e w14 ⟨rfl, hb⟩; refine ⟨_, rfl, ?_⟩; replace BK297 := bb BK297 hb; replace BK298 := bb BK298 hb; replace BK299 := bb BK299 hb; replace HB := hs w hb; (try clear hb); obtain ⟨hcz15_0, hcz15_1, hfz15_0, hfz15_1⟩ := cz2 BK298; obtain ⟨hcz16_0, hcz16_1, hfz16_0, hfz16_1⟩ := cz2 BK297) | ((with_reducible refine gD 5 rfl ?_); refine bx w 5 #[.bool false, .slice none 0 0] 40 ?_; intro gb301 hg w17 hb BK301 GW301 GE301; clear HB; intro HB; have NB297_301 := Aside0.mk ((by rw [hg]; exact Nat.ne_of_lt (blk_lt (g := gb297) (o := .cells #[.bool a1_0, .slice A1_1 l1_1.length c1_1] 40 (0, 0)) (by (with_reducible repeat (first | refine blk_drewN ?_ _ | refine blk_drew ?_ | refine blk_alloc ?_ _)); refine blk_far ?_ NB297_298.out _; (with_reducible repeat (first | refine blk_drewN ?_ _ | refine blk_drew ?_ | refine blk_alloc ?_ _)); refine blk_far ?_ NB297_298.out _; (with_reducible repeat (first | refine blk_drewN ?_ _ | refine blk_drew ?_ | refine blk_alloc ?_ _)); refine blk_put (cs := #[.bool a1_0, .slice A0_1 l0_1.length c0_1]) ?_ 1 _ rfl; (with_reducible repeat (first | refine blk_drewN ?_ _ | refine blk_drew ?_ | refine blk_alloc ?_ _)); refine blk_put (cs := #[.bool a0_0, .slice A0_1 l0_1.length c0_1]) ?_ 0 _ rfl; exact zk BK297)) : gb297 ≠ gb301)); have NB301_297 := Aside0.mk ((by rw [hg]; exact Nat.ne_of_gt (blk_lt (g := gb297) (o := .cells #[.bool a1_0, .slice A1_1 l1_1.length c1_1] 40 (0, 0)) (by (with_reducible repeat (first | refine blk_drewN ?_ _ | refine blk_drew ?_ | refine blk_alloc ?_ _)); refine blk_far ?_ NB297_298.out _; (with_reducible repeat (first | refine blk_drewN ?_ _ | refine blk_drew ?_ | refine blk_alloc ?_ _)); refine blk_far ?_ NB297_298.out _; (with_reducible repeat (first | refine blk_drewN ?_ _ | refine blk_drew ?_ | refine blk_alloc ?_ _)); refine blk_put (cs := #[.bool a1_0, .slice A0_1 l0_1.length c0_1]) ?_ 1 _ rfl; (with_reducible repeat (first | refine blk_drewN ?_ _ | refine blk_drew ?_ | refine blk_alloc ?_ _)); refine blk_put (cs := #[.bool a0_0, .slice A0_1 l0_1.length c0_1]) ?_ 0 _ rfl; exact zk BK297)) : gb301 ≠ gb297)); replace BK297 := Aside0.mk (blk_below (g := gb297) (o := .cells #[.bool a1_0, .slice A1_1 l1_1.length c1_1] 40 (0, 0)) (by (with_reducible repeat (first | refine blk_drewN ?_ _ | refine blk_drew ?_ | refine blk_alloc ?_ _)); refine blk_far ?_ NB297_298.out _; (with_reducible repeat (first | refine blk_drewN ?_ _ | refine blk_drew ?_ | refine blk_alloc ?_ _)); refine blk_far ?_ NB297_298.out _; (with_reducible repeat (first | refine blk_drewN ?_ _ | refine blk_drew ?_ | refine blk_alloc ?_ _)); refine blk_put (cs := #[.bool a1_0, .slice A0_1 l0_1.length c0_1]) ?_ 1 _ rfl; (with_reducible repeat (first | refine blk_drewN ?_ _ | refine blk_drew ?_ | refine blk_alloc ?_ _)); refine blk_put (cs := #[.bool a0_0, .slice A0_1 l0_1.length c0_1]) ?_ 0 _ rfl; exact zk BK297) hb); have NB298_301 := Aside0.mk ((by rw [hg]; exact Nat.ne_of_lt (blk_lt (g := gb298) (o := .cells #[.bool a0_0, .slice A0_1 l0_1.length c0_1] 40 (0, 0)) (by (with_reducible repeat (first | refine blk_drewN ?_ _ | refine blk_drew ?_ | refine blk_alloc ?_ _)); refine blk_put (cs := #[.bool a0_0, .slice A1_1 l1_1.length c1_1]) ?_ 1 _ rfl; (with_reducible repeat (first | refine blk_drewN ?_ _ | refine blk_drew ?_ | refine blk_alloc ?_ _)); refine blk_put (cs := #[.bool a1_0, .slice A1_1 l1_1.length c1_1]) ?_ 0 _ rfl; (with_reducible repeat (first | refine blk_drewN ?_ _ | refine blk_drew ?_ | refine blk_alloc ?_ _)); refine blk_far ?_ NB298_297.out _; (with_reducible repeat (first | refine blk_drewN ?_ _ | refine blk_drew ?_ | refine blk_alloc ?_ _)); refine blk_far ?_ NB298_297.out _; exact zk BK298)) : gb298 ≠ gb301)); have NB301_298 := Aside0.mk ((by rw [hg]; exact Nat.ne_of_gt (blk_lt (g := gb298) (o := .cells #[.bool a0_0, .slice A0_1 l0_1.length c0_1] 40 (0, 0)) (by (with_reducible repeat (first | refine blk_drewN ?_ _ | refine blk_drew ?_ | refine blk_alloc ?_ _)); refine blk_put (cs := #[.bool a0_0, .slice A1_1 l1_1.length c1_1]) ?_ 1 _ rfl; (with_reducible repeat (first | refine blk_drewN ?_ _ | refine blk_drew ?_ | refine blk_alloc ?_ _)); refine blk_put (cs := #[.bool a1_0, .slice A1_1 l1_1.length c1_1]) ?_ 0 _ rfl; (with_reducible repeat (first | refine blk_drewN ?_ _ | refine blk_drew ?_ | refine blk_alloc ?_ _)); refine blk_far ?_ NB298_297.out _; (with_reducible repeat (first | refine blk_drewN ?_ _ | refine blk_drew ?_ | refine blk_alloc ?_ _)); refine blk_far ?_ NB298_297.out _; exact zk BK298)) : gb301 ≠ gb298)); replace BK298 := Aside0.mk (blk_below (g := gb298) (o := .cells #[.bool a0_0, .slice A0_1 l0_1.length c0_1] 40 (0, 0)) (by (with_reducible repeat (first | refine blk_drewN ?_ _ | refine blk_drew ?_ | refine blk_alloc ?_ _)); refine blk_put (cs := #[.bool a0_0, .slice A1_1 l1_1.length c1_1]) ?_ 1 _ rfl; (with_reducible repeat (first | refine blk_drewN ?_ _ | refine blk_drew ?_ | refine blk_alloc ?_ _)); refine blk_put (cs := #[.bool a1_0, .slice A1_1 l1_1.length c1_1]) ?_ 0 _ rfl; (with_reducible repeat (first | refine blk_drewN ?_ _ | refine blk_drew ?_ | refine blk_alloc ?_ _)); refine blk_far ?_ NB298_297.out _; (with_reducible repeat (first | refine blk_drewN ?_ _ | refine blk_drew ?_ | refine blk_alloc ?_ _)); refine blk_far ?_ NB298_297.out _; exact zk BK298) hb); have NB299_301 := Aside0.mk ((by rw [hg]; exact Nat.ne_of_lt (blk_lt (g := gb299) (o := .cells #[.bool false, .slice none 0 0] 40 (0, 0)) (by (with_reducible repeat (first | refine blk_drewN ?_ _ | refine blk_drew ?_ | refine blk_alloc ?_ _)); refine blk_far ?_ NB299_298.out _; (with_reducible repeat (first | refine blk_drewN ?_ _ | refine blk_drew ?_ | refine blk_alloc ?_ _)); refine blk_far ?_ NB299_298.out _; (with_reducible repeat (first | refine blk_drewN ?_ _ | refine blk_drew ?_ | refine blk_alloc ?_ _)); refine blk_far ?_ NB299_297.out _; (with_reducible repeat (first | refine blk_drewN ?_ _ | refine blk_drew ?_ | refine blk_alloc ?_ _)); refine blk_far ?_ NB299_297.out _; exact zk BK299)) : gb299 ≠ gb301)); have NB301_299 := Aside0.mk ((by rw [hg]; exact Nat.ne_of_gt (blk_lt (g := gb299) (o := .cells #[.bool false, .slice none 0 0] 40 (0, 0)) (by (with_reducible repeat (first | refine blk_drewN ?_ _ | refine blk_drew ?_ | refine blk_alloc ?_ _)); refine blk_far ?_ NB299_298.out _; (with_reducible repeat (first | refine blk_drewN ?_ _ | refine blk_drew ?_ | refine blk_alloc ?_ _)); refine blk_far ?_ NB299_298.out _; (with_reducible repeat (first | refine blk_drewN ?_ _ | refine blk_drew ?_ | refine blk_alloc ?_ _)); refine blk_far ?_ NB299_297.out _; (with_reducible repeat (first | refine blk_drewN ?_ _ | refine blk_drew ?_ | refine blk_alloc ?_ _)); refine blk_far ?_ NB299_297.out _; exact zk BK299)) : gb301 ≠ gb299)); replace BK299 := Aside0.mk (blk_below (g := gb299) (o := .cells #[.bool false, .slice none 0 0] 40 (0, 0)) (by (with_reducible repeat (first | refine blk_drewN ?_ _ | refine blk_drew ?_ | refine blk_alloc ?_ _)); refine blk_far ?_ NB299_298.out _; (with_reducible repeat (first | refine blk_drewN ?_ _ | refine blk_drew ?_ | refine blk_alloc ?_ _)); refine blk_far ?_ NB299_298.out _; (with_reducible repeat (first | refine blk_drewN ?_ _ | refine blk_drew ?_ | refine blk_alloc ?_ _)); refine blk_far ?_ NB299_297.out _; (with_reducible repeat (first | refine blk_drewN ?_ _ | refine blk_drew ?_ | refine blk_alloc ?_ _)); refine blk_far ?_ NB299_297.out _; exact zk BK299) hb); clear hb hg; have hnb18 := NB301_297.out; have hnc18 := NB297_301.out; have hnb19 := NB301_298.out; have hnc19 := NB298_301.out; have hnb20 := NB301_299.out; have hnc20 := NB299_301.out; obtain ⟨hcz21_0, hcz21_1, hfz21_0, hfz21_1⟩ := cz2 BK301; obtain ⟨hcz22_0, hcz22_1, hfz22_0, hfz22_1⟩ := cz2 BK297))
   try simp only [sq]
   go_loopg [6, 32] k (fun kq v6 v32 w' => ∃ (x6_1 : Int) (x32_1 : Int) (x302001_1 : List Int) (u302001 : Value), v6 = .int .i64 x6_1 ∧ v32 = .int .i64 x32_1 ∧ Aside0 (interchangeref1_Plus_th.l0 kq x6_1 (l1_1.length : Int) x32_1 a1_0 l1_1 a0_0 l0_1 a1_0 x302001_1 = some (r1, r2)) ∧ Aside0 (kq ≤ k) ∧ Aside0 (Kd.R (Kd.int .i64) 3 w' w.heap.size (fun k_ => (w.heap.size ≤ k_)) u302001 x302001_1) ∧ Aside0 (w'.heap[gb297]? = some (.cells #[.bool a1_0, (.slice A1_1 l1_1.length c1_1)] 40 (0, 0))) ∧ Aside0 (w'.heap[gb298]? = some (.cells #[.bool a0_0, (.slice A0_1 l0_1.length c0_1)] 40 (0, 0))) ∧ Aside0 (w'.heap[gb299]? = some (.cells #[.bool false, (.slice none 0 0)] 40 (0, 0))) ∧ Aside0 (w'.heap[gb301]? = some (.cells #[.bool a1_0, u302001] 40 (0, 0))) ∧ Aside0 (Below w.heap.size w w'))
   case atStart => exact ⟨(0), (0), (([] : List Int)), (.slice none 0 0), ar, ar, H', ⟨Nat.le_refl _⟩, ⟨by first | exact Kd.R_nil _ _ _ _ _ | exact Kd.N_nil _ _ _ _ _ | exact Kd.V_nil _ _ _ _ _ | exact Kd.Q_nil _ _ _ _ _ | exact Kd.S_nil _ _ _ _ _⟩, ⟨by (with_reducible repeat (first | refine blk_drewN ?_ _ | refine blk_drew ?_ | refine blk_alloc ?_ _)); refine blk_far ?_ NB297_301.out _; (with_reducible repeat (first | refine blk_drewN ?_ _ | refine blk_drew ?_ | refine blk_alloc ?_ _)); refine blk_far ?_ NB297_301.out _; exact zk BK297⟩, ⟨by (with_reducible repeat (first | refine blk_drewN ?_ _ | refine blk_drew ?_ | refine blk_alloc ?_ _)); refine blk_far ?_ NB298_301.out _; (with_reducible repeat (first | refine blk_drewN ?_ _ | refine blk_drew ?_ | refine blk_alloc ?_ _)); refine blk_far ?_ NB298_301.out _; exact zk BK298⟩, ⟨by (with_reducible repeat (first | refine blk_drewN ?_ _ | refine blk_drew ?_ | refine blk_alloc ?_ _)); refine blk_far ?_ NB299_301.out _; (with_reducible repeat (first | refine blk_drewN ?_ _ | refine blk_drew ?_ | refine blk_alloc ?_ _)); refine blk_far ?_ NB299_301.out _; exact zk BK299⟩, ⟨by (with_reducible repeat (first | refine blk_drewN ?_ _ | refine blk_drew ?_ | refine blk_alloc ?_ _)); refine blk_put (cs := #[.bool a1_0, .slice none 0 0]) ?_ 1 _ rfl; (with_reducible repeat (first | refine blk_drewN ?_ _ | refine blk_drew ?_ | refine blk_alloc ?_ _)); refine blk_put (cs := #[.bool false, .slice none 0 0]) ?_ 0 _ rfl; exact zk BK301⟩, ⟨(zb w)⟩⟩
   case round =>
    clear H'
    try clear c1
    try clear c2
    try clear p2
    try clear c3
    try clear c3b0
    try clear c5
    try clear c5b0
    try clear p6
    try clear c9
    try clear c10
    try clear c12
    try clear c17
    try clear c18
    try clear c19
    try clear c20
    try clear hcz11_0 hcz11_1
    try clear hcz13_0 hcz13_1
    try clear hcz15_0 hcz15_1
    try clear hcz16_0 hcz16_1
    try clear hcz21_0 hcz21_1
    try clear hcz22_0 hcz22_1
    try clear hfz11_0 hfz11_1
    try clear hfz13_0 hfz13_1
    try clear hfz15_0 hfz15_1
    try clear hfz16_0 hfz16_1
    try clear hfz21_0 hfz21_1
    try clear hfz22_0 hfz22_1
    obtain ⟨x6_1, x32_1, x302001_1, u302001, rfl, rfl, HA, HK1, HO_302001, BK297, BK298, BK299, BK301, HB⟩ := hrel
    cases gk with
    | zero => exact absurd HA.out (by simp [interchangeref1_Plus_th.l0])
    | succ k1 =>
     have H := HA.out
     clear HA
     simp only [interchangeref1_Plus_th.l0] at H
     by_cases c23 : x32_1 < (l1_1.length : Int)
     ·rw [if_pos c23] at H
      have c23b0 : decide (x32_1 < (l1_1.length : Int)) = true := decide_eq_true c23
      clear c23
      by_cases c24 : 0 ≤ x32_1
      ·rw [if_pos c24] at H
       have c24b0 : decide (0 ≤ x32_1) = true := decide_eq_true c24
       clear c24
       by_cases c25 : x32_1 < (l1_1.length : Int)
       ·rw [if_pos c25] at H
        have c25b0 : decide (x32_1 < (l1_1.length : Int)) = true := decide_eq_true c25
        clear c25
        replace H := Option.bind_eq_some_iff.mp H
        obtain ⟨t303, A260, H⟩ := H
        try dsimp only at H
        have A26 := Aside0.mk A260
        clear A260
        by_cases c27 : (wrap64 ((wrap64 ((rd l1_1 x32_1) - t303)) - x6_1)) < 0
        ·rw [if_pos c27] at H
         have c27b0 : decide ((wrap64 ((wrap64 ((rd l1_1 x32_1) - t303)) - x6_1)) < 0) = true := decide_eq_true c27
         clear c27
         by_cases c28 : x302001_1.length < 17592186044416
         ·rw [if_pos c28] at H
          have LMc28 := Aside0.mk c28
          clear c28
          obtain ⟨y304, hy304⟩ : ∃ y_ : List Int, y_ = (x302001_1 ++ [wrap64 ((wrap64 ((wrap64 ((rd l1_1 x32_1) - t303)) - x6_1)) + 1000000)]) := ⟨_, rfl⟩
          replace H : (interchangeref1_Plus_th.l0 k1 1 (l1_1.length : Int) (wrap64 (x32_1 + 1)) a1_0 l1_1 a0_0 l0_1 a1_0 y304) = some (r1, r2) := by first | (rw [hy304]; with_reducible exact H) | (have H2_ := (Option.bind_some _ _).symm.trans H; rw [hy304]; with_reducible exact H2_) | (have H2_ := (Option.bind_some _ _).symm.trans H; with_reducible exact H2_) | with_reducible exact H | (rw [hy304]; exact H) | exact H
          have Ny304 := Aside0.mk hy304
          clear hy304
          have H' := Aside0.mk H
          clear H
          try go_wp2
          have n0_ := Aside0.mk (Kd.R_drew HO_302001.out)
          have n1_ := Aside0.mk (blk_drew BK297.out)
          have n2_ := Aside0.mk (blk_drew BK298.out)
          have n3_ := Aside0.mk (blk_drew BK299.out)
          have n4_ := Aside0.mk (blk_drew BK301.out)
          have n5_ := Aside0.mk (below_drew1 HB.out)
          clear HO_302001
          clear BK297
          clear BK298
          clear BK299
          clear BK301
          clear HB
          have HO_302001 := n0_
          have BK297 := n1_
          have BK298 := n2_
          have BK299 := n3_
          have BK301 := n4_
          have HB := n5_
          clear n0_ n1_ n2_ n3_ n4_ n5_
          have p302 : 0 ≤ (x32_1 : Int) := of_decide_eq_true (by assumption)
          have q302 : x32_1 < (l1_1.length : Int) := of_decide_eq_true (by assumption)
          obtain ⟨ad302, e302, hx302_0⟩ := Kd.at_int HR1_1.out x32_1 p302 q302
          have hw302_0 := hx302_0
          cases e302
          replace hx302_0 := hz HB hx302_0
          replace p302 := eq_true p302
          replace q302 := eq_true q302
          refine start_ (n := 13) (S := fun w' => w'.cell? ⟨gb297, 0, none⟩ = some (.bool a1_0) ∧ w'.cell? ⟨gb297, 1, none⟩ = some (.slice (some ad302) l1_1.length c1_1) ∧ w'.cell? ⟨gb298, 0, none⟩ = some (.bool a0_0) ∧ w'.cell? ⟨gb298, 1, none⟩ = some (.slice A0_1 l0_1.length c0_1) ∧ w'.cell? (ad302.add (x32_1).toNat) = some (.int .i64 (rd l1_1 x32_1))) (ds := []) (bm 13 0) (by kernel_rfl) rfl rfl ⟨(blk_cell BK297.out 0).trans rfl, (blk_cell BK297.out 1).trans rfl, (blk_cell BK298.out 0).trans rfl, (blk_cell BK298.out 1).trans rfl, ((HB.out.cell (World.block_lt_of_cell? w _ hw302_0)).trans hw302_0)⟩ (fun hHeld => ?_); refine with_tabW interchangeref1_Plus_th.tab9 interchangeref1_Plus_th.bits9 (fun HT_ HW_ => ?_)
          generalize wr.drew = w29 at HO_302001 BK297 BK298 BK299 BK301 HB hx302_0 hHeld ⊢
          refine pu 0 35 (bm 13 1) HT_ ?_
          refine pu 2 37 (bm 13 5) HT_ ?_
          refine pu 5 40 (bm 13 37) HT_ ?_
          refine pu 7 42 (bm 13 165) HT_ ?_
          refine pu 10 45 (bm 13 1189) HT_ ?_
          refine ta5 1 36 (bm 13 1191) HT_ HW_ hHeld ?_
          refine pu 3 38 (bm 13 1199) HT_ ?_
          refine ta5 4 39 (bm 13 1215) HT_ HW_ hHeld ?_
          refine ta5 6 41 (bm 13 1279) HT_ HW_ hHeld ?_
          refine one_ (i := 8) (N := some 43) (bm 13 1535) rfl rfl (one_of HT_.out (by kernel_rfl)) (by decide) (fun K hK => ?_)
          refine gs Tryd.func34 #[.slice A0_1 l0_1.length c0_1, .int .i64 x32_1] ?_
          with_reducible refine (interchangeref1_digit.calls _ _ l0_1 x32_1 t303 _ (zc HR0_1) HC0_1.out A26.out).mono ?_
          rintro e w30 ⟨rfl, hb⟩
          refine ⟨_, rfl, ?_⟩
          have n0_ := rb HO_302001 hb
          have n1_ := bb BK297 hb
          have n2_ := bb BK298 hb
          have n3_ := bb BK299 hb
          have n4_ := bb BK301 hb
          have n5_ := hs w hb
          clear HO_302001
          clear BK297
          clear BK298
          clear BK299
          clear BK301
          clear HB
          have HO_302001 := n0_
          have BK297 := n1_
          have BK298 := n2_
          have BK299 := n3_
          have BK301 := n4_
          have HB := n5_
          clear n0_ n1_ n2_ n3_ n4_ n5_
          (try clear hb)
          (try clear hb2)
          (try clear hk)
          (try clear hi)
          refine hK.out _ _ ⟨(blk_cell BK297.out 0).trans rfl, (blk_cell BK297.out 1).trans rfl, (blk_cell BK298.out 0).trans rfl, (blk_cell BK298.out 1).trans rfl, ((HB.out.cell (World.block_lt_of_cell? w _ hw302_0)).trans hw302_0)⟩ (fun hHeld => ?_)
          clear hK K
          refine norm_ (a' := ?_) ?_ ?_
          rotate_left
          ·show Act.put _ (some 43) _ = _
           simp only [sq, i64_w, i32_w]
           rfl
          refine pu 9 44 (bm 13 2047) HT_ ?_
          refine pu 11 46 (bm 13 4095) HT_ ?_
          refine pu 12 8 (bm 13 8191) HT_ ?_
          refine done_ (done_of HT_.out (by kernel_rfl)) ?_
          have hnb31 := NB301_297.out
          have hnc31 := NB297_301.out
          have hnb32 := NB301_298.out
          have hnc32 := NB298_301.out
          have hnb33 := NB301_299.out
          have hnc33 := NB299_301.out
          obtain ⟨hcz34_0, hcz34_1, hfz34_0, hfz34_1⟩ := cz2 BK301
          try go_wp2_with (first | ((with_reducible refine gate_builtin (b := .append) (xs := #[.tmp 52, .tmp 54]) rfl ?_); at_builtin; refine Kd.R_append (Kd.int .i64) (w0 := w) w.heap.size rfl (.tmp 52) (.tmp 54) 38 3 (.int .i64 0) 8 rfl Tryd.underlying38 info3 rfl (by decide) (by omega) u302001 x302001_1 (wrap64 ((wrap64 ((wrap64 ((rd l1_1 x32_1) - t303)) - x6_1)) + 1000000)) [.int .i64 (wrap64 ((wrap64 ((wrap64 ((rd l1_1 x32_1) - t303)) - x6_1)) + 1000000))] (fun k_ => (w.heap.size ≤ k_)) (fun _ => False) rfl rfl ?aP (fun _ hk => hk.elim) ?aF ?aO ?aB ?aS ?aL ?_; (case aP => exact rfl); (case aB => exact (zb w)); (case aF => exact (fun k_ hk => (Nat.le_trans (below_size (zb w)) hk))); (case aO => exact (zo HO_302001)); (case aS => exact (below_size (zb w))); (case aL => have := LMc28.out; omega); intro v305 w35 ho hb hg hat; rw [← Ny304.out] at ho; replace BK297 := Aside0.mk (blk_grown (g := gb297) (o := .cells #[.bool a1_0, .slice (some ad302) l1_1.length c1_1] 40 (0, 0)) (zk BK297) hg (Kd.R_ne HO_302001.out BK297.out (by decide))); replace BK298 := Aside0.mk (blk_grown (g := gb298) (o := .cells #[.bool a0_0, .slice A0_1 l0_1.length c0_1] 40 (0, 0)) (zk BK298) hg (Kd.R_ne HO_302001.out BK298.out (by decide))); replace BK299 := Aside0.mk (blk_grown (g := gb299) (o := .cells #[.bool false, .slice none 0 0] 40 (0, 0)) (zk BK299) hg (Kd.R_ne HO_302001.out BK299.out (by decide))); replace BK301 := Aside0.mk (blk_grown (g := gb301) (o := .cells #[.bool a1_0, u302001] 40 (0, 0)) (zk BK301) hg (Kd.R_ne HO_302001.out BK301.out (by decide))); replace HB := Aside0.mk (hb); have HO306 := Aside0.mk (ho); clear HO_302001; clear ho hb hg hat; obtain ⟨Ao36, co36, eo36⟩ := Kd.R_slice HO306.out; subst eo36; obtain ⟨hcz37_0, hcz37_1, hfz37_0, hfz37_1⟩ := cz2 BK301))
          go_roundg k1
          case measure => have := HK1.out; omega
          case rel => exact ⟨(1), (wrap64 (x32_1 + 1)), (y304), (.slice Ao36 y304.length co36), ar, ar, H', ⟨by have := HK1.out; omega⟩, ⟨by (with_reducible repeat (first | apply Kd.R_alloc | apply Kd.R_drewN | apply Kd.R_drew)); exact Kd.R_mono (Kd.R_far (p := ⟨gb301, 1, none⟩) (Kd.R_types HO306.out BK301.out (by decide)) (fun _ hk => hk.2) (.slice Ao36 y304.length co36)) (fun _ hk => hk.1)⟩, ⟨by (with_reducible repeat (first | refine blk_drewN ?_ _ | refine blk_drew ?_ | refine blk_alloc ?_ _)); refine blk_far ?_ NB297_301.out _; exact zk BK297⟩, ⟨by (with_reducible repeat (first | refine blk_drewN ?_ _ | refine blk_drew ?_ | refine blk_alloc ?_ _)); refine blk_far ?_ NB298_301.out _; exact zk BK298⟩, ⟨by (with_reducible repeat (first | refine blk_drewN ?_ _ | refine blk_drew ?_ | refine blk_alloc ?_ _)); refine blk_far ?_ NB299_301.out _; exact zk BK299⟩, ⟨by (with_reducible repeat (first | refine blk_drewN ?_ _ | refine blk_drew ?_ | refine blk_alloc ?_ _)); refine blk_put (cs := #[.bool a1_0, u302001]) ?_ 1 _ rfl; exact zk BK301⟩, ⟨(zb w)⟩⟩
         ·rw [if_neg c28] at H
          exact absurd H (by simp)
        ·rw [if_neg c27] at H
         have c27b0 : decide ((wrap64 ((wrap64 ((rd l1_1 x32_1) - t303)) - x6_1)) < 0) = false := decide_eq_false c27
         clear c27
         by_cases c38 : x302001_1.length < 17592186044416
         ·rw [if_pos c38] at H
          have LMc38 := Aside0.mk c38
          clear c38
          obtain ⟨y307, hy307⟩ : ∃ y_ : List Int, y_ = (x302001_1 ++ [wrap64 ((wrap64 ((rd l1_1 x32_1) - t303)) - x6_1)]) := ⟨_, rfl⟩
          replace H : (interchangeref1_Plus_th.l0 k1 0 (l1_1.length : Int) (wrap64 (x32_1 + 1)) a1_0 l1_1 a0_0 l0_1 a1_0 y307) = some (r1, r2) := by first | (rw [hy307]; with_reducible exact H) | (have H2_ := (Option.bind_some _ _).symm.trans H; rw [hy307]; with_reducible exact H2_) | (have H2_ := (Option.bind_some _ _).symm.trans H; with_reducible exact H2_) | with_reducible exact H | (rw [hy307]; exact H) | exact H
          have Ny307 := Aside0.mk hy307
          clear hy307
          have H' := Aside0.mk H
          clear H
          try go_wp2
          have n0_ := Aside0.mk (Kd.R_drew HO_302001.out)
          have n1_ := Aside0.mk (blk_drew BK297.out)
          have n2_ := Aside0.mk (blk_drew BK298.out)
          have n3_ := Aside0.mk (blk_drew BK299.out)
          have n4_ := Aside0.mk (blk_drew BK301.out)
          have n5_ := Aside0.mk (below_drew1 HB.out)
          clear HO_302001
          clear BK297
          clear BK298
          clear BK299
          clear BK301
          clear HB
          have HO_302001 := n0_
          have BK297 := n1_
          have BK298 := n2_
          have BK299 := n3_
          have BK301 := n4_
          have HB := n5_
          clear n0_ n1_ n2_ n3_ n4_ n5_
          have p302 : 0 ≤ (x32_1 : Int) := of_decide_eq_true (by assumption)
          have q302 : x32_1 < (l1_1.length : Int) := of_decide_eq_true (by assumption)
          obtain ⟨ad302, e302, hx302_0⟩ := Kd.at_int HR1_1.out x32_1 p302 q302
          have hw302_0 := hx302_0
          cases e302
          replace hx302_0 := hz HB hx302_0
          replace p302 := eq_true p302
          replace q302 := eq_true q302
          refine start_ (n := 13) (S := fun w' => w'.cell? ⟨gb297, 0, none⟩ = some (.bool a1_0) ∧ w'.cell? ⟨gb297, 1, none⟩ = some (.slice (some ad302) l1_1.length c1_1) ∧ w'.cell? ⟨gb298, 0, none⟩ = some (.bool a0_0) ∧ w'.cell? ⟨gb298, 1, none⟩ = some (.slice A0_1 l0_1.length c0_1) ∧ w'.cell? (ad302.add (x32_1).toNat) = some (.int .i64 (rd l1_1 x32_1))) (ds := []) (bm 13 0) (by kernel_rfl) rfl rfl ⟨(blk_cell BK297.out 0).trans rfl, (blk_cell BK297.out 1).trans rfl, (blk_cell BK298.out 0).trans rfl, (blk_cell BK298.out 1).trans rfl, ((HB.out.cell (World.block_lt_of_cell? w _ hw302_0)).trans hw302_0)⟩ (fun hHeld => ?_); refine with_tabW interchangeref1_Plus_th.tab9 interchangeref1_Plus_th.bits9 (fun HT_ HW_ => ?_)
          generalize wr.drew = w39 at HO_302001 BK297 BK298 BK299 BK301 HB hx302_0 hHeld ⊢
          refine pu 0 35 (bm 13 1) HT_ ?_
          refine pu 2 37 (bm 13 5) HT_ ?_
          refine pu 5 40 (bm 13 37) HT_ ?_
          refine pu 7 42 (bm 13 165) HT_ ?_
          refine pu 10 45 (bm 13 1189) HT_ ?_
          refine ta5 1 36 (bm 13 1191) HT_ HW_ hHeld ?_
          refine pu 3 38 (bm 13 1199) HT_ ?_
          refine ta5 4 39 (bm 13 1215) HT_ HW_ hHeld ?_
          refine ta5 6 41 (bm 13 1279) HT_ HW_ hHeld ?_
          refine one_ (i := 8) (N := some 43) (bm 13 1535) rfl rfl (one_of HT_.out (by kernel_rfl)) (by decide) (fun K hK => ?_)
          refine gs Tryd.func34 #[.slice A0_1 l0_1.length c0_1, .int .i64 x32_1] ?_
          with_reducible refine (interchangeref1_digit.calls _ _ l0_1 x32_1 t303 _ (zc HR0_1) HC0_1.out A26.out).mono ?_
          rintro e w40 ⟨rfl, hb⟩
          refine ⟨_, rfl, ?_⟩
          have n0_ := rb HO_302001 hb
          have n1_ := bb BK297 hb
          have n2_ := bb BK298 hb
          have n3_ := bb BK299 hb
          have n4_ := bb BK301 hb
          have n5_ := hs w hb
          clear HO_302001
          clear BK297
          clear BK298
          clear BK299
          clear BK301
          clear HB
          have HO_302001 := n0_
          have BK297 := n1_
          have BK298 := n2_
          have BK299 := n3_
          have BK301 := n4_
          have HB := n5_
          clear n0_ n1_ n2_ n3_ n4_ n5_
          (try clear hb)
          (try clear hb2)
          (try clear hk)
          (try clear hi)
          refine hK.out _ _ ⟨(blk_cell BK297.out 0).trans rfl, (blk_cell BK297.out 1).trans rfl, (blk_cell BK298.out 0).trans rfl, (blk_cell BK298.out 1).trans rfl, ((HB.out.cell (World.block_lt_of_cell? w _ hw302_0)).trans hw302_0)⟩ (fun hHeld => ?_)
          clear hK K
          refine norm_ (a' := ?_) ?_ ?_
          rotate_left
          ·show Act.put _ (some 43) _ = _
           simp only [sq, i64_w, i32_w]
           rfl
          refine pu 9 44 (bm 13 2047) HT_ ?_
          refine pu 11 46 (bm 13 4095) HT_ ?_
          refine pu 12 8 (bm 13 8191) HT_ ?_
          refine done_ (done_of HT_.out (by kernel_rfl)) ?_
          have hnb41 := NB301_297.out
          have hnc41 := NB297_301.out
          have hnb42 := NB301_298.out
          have hnc42 := NB298_301.out
          have hnb43 := NB301_299.out
          have hnc43 := NB299_301.out
          obtain ⟨hcz44_0, hcz44_1, hfz44_0, hfz44_1⟩ := cz2 BK301
          try go_wp2_with (first | ((with_reducible refine gate_builtin (b := .append) (xs := #[.tmp 52, .tmp 54]) rfl ?_); at_builtin; refine Kd.R_append (Kd.int .i64) (w0 := w) w.heap.size rfl (.tmp 52) (.tmp 54) 38 3 (.int .i64 0) 8 rfl Tryd.underlying38 info3 rfl (by decide) (by omega) u302001 x302001_1 (wrap64 ((wrap64 ((rd l1_1 x32_1) - t303)) - x6_1)) [.int .i64 (wrap64 ((wrap64 ((rd l1_1 x32_1) - t303)) - x6_1))] (fun k_ => (w.heap.size ≤ k_)) (fun _ => False) rfl rfl ?aP (fun _ hk => hk.elim) ?aF ?aO ?aB ?aS ?aL ?_; (case aP => exact rfl); (case aB => exact (zb w)); (case aF => exact (fun k_ hk => (Nat.le_trans (below_size (zb w)) hk))); (case aO => exact (zo HO_302001)); (case aS => exact (below_size (zb w))); (case aL => have := LMc38.out; omega); intro v308 w45 ho hb hg hat; rw [← Ny307.out] at ho; replace BK297 := Aside0.mk (blk_grown (g := gb297) (o := .cells #[.bool a1_0, .slice (some ad302) l1_1.length c1_1] 40 (0, 0)) (zk BK297) hg (Kd.R_ne HO_302001.out BK297.out (by decide))); replace BK298 := Aside0.mk (blk_grown (g := gb298) (o := .cells #[.bool a0_0, .slice A0_1 l0_1.length c0_1] 40 (0, 0)) (zk BK298) hg (Kd.R_ne HO_302001.out BK298.out (by decide))); replace BK299 := Aside0.mk (blk_grown (g := gb299) (o := .cells #[.bool false, .slice none 0 0] 40 (0, 0)) (zk BK299) hg (Kd.R_ne HO_302001.out BK299.out (by decide))); replace BK301 := Aside0.mk (blk_grown (g := gb301) (o := .cells #[.bool a1_0, u302001] 40 (0, 0)) (zk BK301) hg (Kd.R_ne HO_302001.out BK301.out (by decide))); replace HB := Aside0.mk (hb); have HO309 := Aside0.mk (ho); clear HO_302001; clear ho hb hg hat; obtain ⟨Ao46, co46, eo46⟩ := Kd.R_slice HO309.out; subst eo46; obtain ⟨hcz47_0, hcz47_1, hfz47_0, hfz47_1⟩ := cz2 BK301))
          go_roundg k1
          case measure => have := HK1.out; omega
          case rel => exact ⟨(0), (wrap64 (x32_1 + 1)), (y307), (.slice Ao46 y307.length co46), ar, ar, H', ⟨by have := HK1.out; omega⟩, ⟨by (with_reducible repeat (first | apply Kd.R_alloc | apply Kd.R_drewN | apply Kd.R_drew)); exact Kd.R_mono (Kd.R_far (p := ⟨gb301, 1, none⟩) (Kd.R_types HO309.out BK301.out (by decide)) (fun _ hk => hk.2) (.slice Ao46 y307.length co46)) (fun _ hk => hk.1)⟩, ⟨by (with_reducible repeat (first | refine blk_drewN ?_ _ | refine blk_drew ?_ | refine blk_alloc ?_ _)); refine blk_far ?_ NB297_301.out _; exact zk BK297⟩, ⟨by (with_reducible repeat (first | refine blk_drewN ?_ _ | refine blk_drew ?_ | refine blk_alloc ?_ _)); refine blk_far ?_ NB298_301.out _; exact zk BK298⟩, ⟨by (with_reducible repeat (first | refine blk_drewN ?_ _ | refine blk_drew ?_ | refine blk_alloc ?_ _)); refine blk_far ?_ NB299_301.out _; exact zk BK299⟩, ⟨by (with_reducible repeat (first | refine blk_drewN ?_ _ | refine blk_drew ?_ | refine blk_alloc ?_ _)); refine blk_put (cs := #[.bool a1_0, u302001]) ?_ 1 _ rfl; exact zk BK301⟩, ⟨(zb w)⟩⟩
         ·rw [if_neg c38] at H
          exact absurd H (by simp)
       ·rw [if_neg c25] at H
        exact absurd H (by simp)
      ·rw [if_neg c24] at H
       exact absurd H (by simp)
     ·rw [if_neg c23] at H
      have c23b0 : decide (x32_1 < (l1_1.length : Int)) = false := decide_eq_false c23
      clear c23
      replace H := Option.bind_eq_some_iff.mp H
      obtain ⟨⟨t310, t311⟩, A480, H⟩ := H
      try dsimp only at H
      have A48 := Aside0.mk A480
      clear A480
      simp only [Option.some.injEq, Prod.mk.injEq] at H
      obtain ⟨rfl, rfl⟩ := H
      have hnb49 := NB301_297.out
      have hnc49 := NB297_301.out
      have hnb50 := NB301_298.out
      have hnc50 := NB298_301.out
      have hnb51 := NB301_299.out
      have hnc51 := NB299_301.out
      obtain ⟨hcz52_0, hcz52_1, hfz52_0, hfz52_1⟩ := cz2 BK301
      obtain ⟨Ao53, co53, eo53⟩ := Kd.R_slice HO_302001.out
      subst eo53
      go_wp2_with (first | ((with_reducible refine gC 35 rfl ?_); refine gl_ 59 Tryd.func35 #[.agg #[.bool a1_0, .slice Ao53 x302001_1.length co53]] ?_; (with_reducible refine (interchangeref1_trimmed.calls k1 a1_0 (fun k_ => some k_ = (.slice Ao53 x302001_1.length co53 : Value).ownBlock) _ _ x302001_1 t310 t311 _ ?side1 A48.out).mono ?_); (case side1 => exact Kd.R_V (Kd.R_tight rfl (Kd.R_types (Kd.R_types (Kd.R_types (Kd.R_types (HO_302001.out) BK297.out (by decide)) BK298.out (by decide)) BK299.out (by decide)) BK301.out (by decide)))); rintro e w54 ⟨v312, rfl, ho0, hb⟩; refine ⟨_, rfl, ?_⟩; have HO313 := Aside0.mk (Kd.V_lower (Kd.V_mono (ok' := fun k_ => (w.heap.size ≤ k_) ∧ k_ ≠ gb297 ∧ k_ ≠ gb298 ∧ k_ ≠ gb299 ∧ k_ ≠ gb301) ho0 (fun k_ hk_ => ⟨Or.elim hk_ (fun hs_ => ((Kd.R_types (Kd.R_types (Kd.R_types (Kd.R_types (HO_302001.out) BK297.out (by decide)) BK298.out (by decide)) BK299.out (by decide)) BK301.out (by decide)).1 k_ hs_.symm).1.1.1.1) (fun hn_ => (Nat.le_trans (below_size (zb w)) hn_)), Or.elim hk_ (fun hs_ => ((Kd.R_types (Kd.R_types (Kd.R_types (Kd.R_types (HO_302001.out) BK297.out (by decide)) BK298.out (by decide)) BK299.out (by decide)) BK301.out (by decide)).1 k_ hs_.symm).1.1.1.2) (fun hn_ => (Kd.freshB (g := gb297) (o := .cells #[.bool a1_0, .slice A1_1 l1_1.length c1_1] 40 (0, 0)) (zk BK297) k_ hn_)), Or.elim hk_ (fun hs_ => ((Kd.R_types (Kd.R_types (Kd.R_types (Kd.R_types (HO_302001.out) BK297.out (by decide)) BK298.out (by decide)) BK299.out (by decide)) BK301.out (by decide)).1 k_ hs_.symm).1.1.2) (fun hn_ => (Kd.freshB (g := gb298) (o := .cells #[.bool a0_0, .slice A0_1 l0_1.length c0_1] 40 (0, 0)) (zk BK298) k_ hn_)), Or.elim hk_ (fun hs_ => ((Kd.R_types (Kd.R_types (Kd.R_types (Kd.R_types (HO_302001.out) BK297.out (by decide)) BK298.out (by decide)) BK299.out (by decide)) BK301.out (by decide)).1 k_ hs_.symm).1.2) (fun hn_ => (Kd.freshB (g := gb299) (o := .cells #[.bool false, .slice none 0 0] 40 (0, 0)) (zk BK299) k_ hn_)), Or.elim hk_ (fun hs_ => ((Kd.R_types (Kd.R_types (Kd.R_types (Kd.R_types (HO_302001.out) BK297.out (by decide)) BK298.out (by decide)) BK299.out (by decide)) BK301.out (by decide)).1 k_ hs_.symm).2) (fun hn_ => (Kd.freshB (g := gb301) (o := .cells #[.bool a1_0, .slice Ao53 x302001_1.length co53] 40 (0, 0)) (zk BK301) k_ hn_))⟩)) (below_size (zb w))); replace HO_302001 := rb HO_302001 hb; replace BK297 := bb BK297 hb; replace BK298 := bb BK298 hb; replace BK299 := bb BK299 hb; replace BK301 := bb BK301 hb; replace HB := hs w hb; (try clear hb); (try clear ho0); have hnb55 := NB299_297.out; have hnc55 := NB297_299.out; have hnb56 := NB299_298.out; have hnc56 := NB298_299.out; obtain ⟨hcz57_0, hcz57_1, hfz57_0, hfz57_1⟩ := cz2 BK299; obtain ⟨Ao58, co58, eo58⟩ := Kd.V_slice HO313.out; subst eo58))
      refine bodyPost_ret (results_cell_row rfl _ _ gb299 40 #[.bool t310, .slice Ao58 t311.length co58] (0, 0) _ rfl (by (with_reducible repeat (first | refine blk_drewN ?_ _ | refine blk_drew ?_ | refine blk_alloc ?_ _)); refine blk_put (cs := #[.bool t310, .slice none 0 0]) ?_ 1 _ rfl; (with_reducible repeat (first | refine blk_drewN ?_ _ | refine blk_drew ?_ | refine blk_alloc ?_ _)); refine blk_put (cs := #[.bool false, .slice none 0 0]) ?_ 0 _ rfl; exact zk BK299) Tryd.underlying40 rfl (by kernel_rfl)) rfl ?_
      exact ⟨_, by first | rfl | (simp [errW_none, errW_some] <;> rfl) | (simp [*, errW_none, errW_some] <;> rfl), by (with_reducible repeat (first | apply Kd.V_alloc | apply Kd.V_drewN | apply Kd.V_drew)); exact Kd.V_mono (Kd.V_far (p := ⟨gb299, 1, none⟩) (Kd.V_far (p := ⟨gb299, 0, none⟩) (Kd.V_mono HO313.out (fun k_ hk => (⟨hk, hk.2.2.2.1⟩ : _ ∧ k_ ≠ gb299))) (fun _ hk => hk.2) (.bool t310)) (fun _ hk => hk.2) (.slice Ao58 t311.length co58)) (fun _ hk => hk.1.1), (zb w)⟩
  ·rw [if_neg c5] at H
   exact absurd H (by simp)
 ·rw [if_neg c3] at H
  have c3b0 : (!(a0_0 == a1_0)) = false := by simpa using c3
  clear c3
  by_cases c59 : (l0_1.length : Int) < (l1_1.length : Int)
  ·rw [if_pos c59] at H
   have c59i := eq_true c59
   have c59b0 : decide ((l0_1.length : Int) < (l1_1.length : Int)) = true := decide_eq_true c59
   have c59b1 : decide (l0_1.length < l1_1.length) = true := decide_eq_true (Int.ofNat_lt.mp c59)
   clear c59
   have H' := Aside0.mk H
   clear H
   go_enter Tryd.func17, Tryd.ntmps17
   go_wp2_with (first | ((with_reducible refine gD 2 rfl ?_); refine bx w 2 #[.bool a0_0, .slice A0_1 l0_1.length c0_1] 40 ?_; intro gb297 hg w60 hb BK297 GW297 GE297; clear HB; intro HB; clear hb hg) | ((with_reducible refine gD 3 rfl ?_); refine bx w 3 #[.bool a1_0, .slice A1_1 l1_1.length c1_1] 40 ?_; intro gb298 hg w61 hb BK298 GW298 GE298; clear HB; intro HB; have NB297_298 := nbl BK297 hg; have NB298_297 := nbr BK297 hg; replace BK297 := bb BK297 hb; clear hb hg) | ((with_reducible refine gD 4 rfl ?_); refine bx w 4 #[.bool false, .slice none 0 0] 40 ?_; intro gb299 hg w62 hb BK299 GW299 GE299; clear HB; intro HB; have NB297_299 := nbl BK297 hg; have NB299_297 := nbr BK297 hg; replace BK297 := bb BK297 hb; have NB298_299 := nbl BK298 hg; have NB299_298 := nbr BK298 hg; replace BK298 := bb BK298 hb; clear hb hg; have hnb63 := NB297_298.out; have hnc63 := NB298_297.out; have hnb64 := NB297_299.out; have hnc64 := NB299_297.out; obtain ⟨hcz65_0, hcz65_1, hfz65_0, hfz65_1⟩ := cz2 BK297; have hnb66 := NB298_299.out; have hnc66 := NB299_298.out; obtain ⟨hcz67_0, hcz67_1, hfz67_0, hfz67_1⟩ := cz2 BK298) | ((with_reducible refine gD 9 rfl ?_); refine bx w 9 #[.bool false, .slice none 0 0] 40 ?_; intro gb314 hg w68 hb BK314 GW314 GE314; clear HB; intro HB; have NB297_314 := nbl BK297 hg; have NB314_297 := nbr BK297 hg; replace BK297 := bb BK297 hb; have NB298_314 := nbl BK298 hg; have NB314_298 := nbr BK298 hg; replace BK298 := bb BK298 hb; have NB299_314 := nbl BK299 hg; have NB314_299 := nbr BK299 hg; replace BK299 := bb BK299 hb; clear hb hg; have hnb69 := NB314_297.out; have hnc69 := NB297_314.out; have hnb70 := NB314_298.out; have hnc70 := NB298_314.out; have hnb71 := NB314_299.out; have hnc71 := NB299_314.out; obtain ⟨hcz72_0, hcz72_1, hfz72_0, hfz72_1⟩ := cz2 BK314; obtain ⟨hcz73_0, hcz73_1, hfz73_0, hfz73_1⟩ := cz2 BK297; obtain ⟨hcz74_0, hcz74_1, hfz74_0, hfz74_1⟩ := cz2 BK298))
   try simp only [sq]
   go_loopg [10, 71] k (fun kq v10 v71 w' => ∃ (x10_1 : Int) (x71_1 : Int) (x315001_1 : List Int) (u315001 : Value), v10 = .int .i64 x10_1 ∧ v71 = .int .i64 x71_1 ∧ Aside0 (interchangeref1_Plus_th.l1 kq x10_1 (wrap64 ((l1_1.length : Int) + 1)) x71_1 a0_0 l0_1 a1_0 l1_1 a0_0 x315001_1 = some (r1, r2)) ∧ Aside0 (kq ≤ k) ∧ Aside0 (Kd.R (Kd.int .i64) 3 w' w.heap.size (fun k_ => (w.heap.size ≤ k_)) u315001 x315001_1) ∧ Aside0 (w'.heap[gb297]? = some (.cells #[.bool a0_0, (.slice A0_1 l0_1.length c0_1)] 40 (0, 0))) ∧ Aside0 (w'.heap[gb298]? = some (.cells #[.bool a1_0, (.slice A1_1 l1_1.length c1_1)] 40 (0, 0))) ∧ Aside0 (w'.heap[gb299]? = some (.cells #[.bool false, (.slice none 0 0)] 40 (0, 0))) ∧ Aside0 (w'.heap[gb314]? = some (.cells #[.bool a0_0, u315001] 40 (0, 0))) ∧ Aside0 (Below w.heap.size w w'))
   case atStart => exact ⟨(0), (0), (([] : List Int)), (.slice none 0 0), ar, ar, H', ⟨Nat.le_refl _⟩, ⟨by first | exact Kd.R_nil _ _ _ _ _ | exact Kd.N_nil _ _ _ _ _ | exact Kd.V_nil _ _ _ _ _ | exact Kd.Q_nil _ _ _ _ _ | exact Kd.S_nil _ _ _ _ _⟩, ⟨by (with_reducible repeat (first | refine blk_drewN ?_ _ | refine blk_drew ?_ | refine blk_alloc ?_ _)); refine blk_far ?_ NB297_314.out _; (with_reducible repeat (first | refine blk_drewN ?_ _ | refine blk_drew ?_ | refine blk_alloc ?_ _)); refine blk_far ?_ NB297_314.out _; exact zk BK297⟩, ⟨by (with_reducible repeat (first | refine blk_drewN ?_ _ | refine blk_drew ?_ | refine blk_alloc ?_ _)); refine blk_far ?_ NB298_314.out _; (with_reducible repeat (first | refine blk_drewN ?_ _ | refine blk_drew ?_ | refine blk_alloc ?_ _)); refine blk_far ?_ NB298_314.out _; exact zk BK298⟩, ⟨by (with_reducible repeat (first | refine blk_drewN ?_ _ | refine blk_drew ?_ | refine blk_alloc ?_ _)); refine blk_far ?_ NB299_314.out _; (with_reducible repeat (first | refine blk_drewN ?_ _ | refine blk_drew ?_ | refine blk_alloc ?_ _)); refine blk_far ?_ NB299_314.out _; exact zk BK299⟩, ⟨by (with_reducible repeat (first | refine blk_drewN ?_ _ | refine blk_drew ?_ | refine blk_alloc ?_ _)); refine blk_put (cs := #[.bool a0_0, .slice none 0 0]) ?_ 1 _ rfl; (with_reducible repeat (first | refine blk_drewN ?_ _ | refine blk_drew ?_ | refine blk_alloc ?_ _)); refine blk_put (cs := #[.bool false, .slice none 0 0]) ?_ 0 _ rfl; exact zk BK314⟩, ⟨(zb w)⟩⟩
   case round =>
    clear H'
    try clear c1
    try clear c2
    try clear p2
    try clear c3
    try clear c3b0
    try clear p3
    try clear q3
    try clear hx3
    try clear c4
    try clear c5
    try clear c5b0
    try clear c6
    try clear p6
    try clear c7
    try clear c9
    try clear c10
    try clear c12
    try clear c17
    try clear c18
    try clear c19
    try clear c20
    try clear c23
    try clear c23b0
    try clear c24
    try clear c24b0
    try clear c25
    try clear c25b0
    try clear c27
    try clear c27b0
    try clear c28
    try clear p30
    try clear q30
    try clear hx30
    try clear c31
    try clear c32
    try clear c33
    try clear c34
    try clear c35
    try clear c38
    try clear c41
    try clear c42
    try clear c43
    try clear c49
    try clear c50
    try clear c51
    try clear c55
    try clear c56
    try clear c59
    try clear c59b0
    try clear c59b1
    try clear c63
    try clear c64
    try clear p64
    try clear c66
    try clear c69
    try clear c70
    try clear c71
    try clear hcz11_0 hcz11_1
    try clear hcz13_0 hcz13_1
    try clear hcz15_0 hcz15_1
    try clear hcz16_0 hcz16_1
    try clear hcz21_0 hcz21_1
    try clear hcz22_0 hcz22_1
    try clear hcz34_0 hcz34_1
    try clear hcz37_0 hcz37_1
    try clear hcz44_0 hcz44_1
    try clear hcz47_0 hcz47_1
    try clear hcz52_0 hcz52_1
    try clear hcz57_0 hcz57_1
    try clear hcz65_0 hcz65_1
    try clear hcz67_0 hcz67_1
    try clear hcz72_0 hcz72_1
    try clear hcz73_0 hcz73_1
    try clear hcz74_0 hcz74_1
    try clear hfz11_0 hfz11_1
    try clear hfz13_0 hfz13_1
    try clear hfz15_0 hfz15_1
    try clear hfz16_0 hfz16_1
    try clear hfz21_0 hfz21_1
    try clear hfz22_0 hfz22_1
    try clear hfz34_0 hfz34_1
    try clear hfz37_0 hfz37_1
    try clear hfz44_0 hfz44_1
    try clear hfz47_0 hfz47_1
    try clear hfz52_0 hfz52_1
    try clear hfz57_0 hfz57_1
    try clear hfz65_0 hfz65_1
    try clear hfz67_0 hfz67_1
    try clear hfz72_0 hfz72_1
    try clear hfz73_0 hfz73_1
    try clear hfz74_0 hfz74_1
    try clear hx302_0
    try clear p2
    try clear p302
    try clear p6
    try clear q302
    obtain ⟨x10_1, x71_1, x315001_1, u315001, rfl, rfl, HA, HK1, HO_315001, BK297, BK298, BK299, BK314, HB⟩ := hrel
    cases gk with
    | zero => exact absurd HA.out (by simp [interchangeref1_Plus_th.l1])
    | succ k1 =>
     have H := HA.out
     clear HA
     simp only [interchangeref1_Plus_th.l1] at H
     by_cases c75 : x71_1 < (wrap64 ((l1_1.length : Int) + 1))
     ·rw [if_pos c75] at H
      have c75b0 : decide (x71_1 < (wrap64 ((l1_1.length : Int) + 1))) = true := decide_eq_true c75
      clear c75
      replace H := Option.bind_eq_some_iff.mp H
      obtain ⟨t315, A760, H⟩ := H
      try dsimp only at H
      have A76 := Aside0.mk A760
      clear A760
      replace H := Option.bind_eq_some_iff.mp H
      obtain ⟨t316, A770, H⟩ := H
      try dsimp only at H
      have A77 := Aside0.mk A770
      clear A770
      by_cases c78 : x315001_1.length < 17592186044416
      ·rw [if_pos c78] at H
       have LMc78 := Aside0.mk c78
       clear c78
       obtain ⟨y317, hy317⟩ : ∃ y_ : List Int, y_ = (x315001_1 ++ [Int.tmod (wrap64 ((wrap64 (t315 + t316)) + x10_1)) 1000000]) := ⟨_, rfl⟩
       replace H : (interchangeref1_Plus_th.l1 k1 (wrap64 (Int.tdiv (wrap64 ((wrap64 (t315 + t316)) + x10_1)) 1000000)) (wrap64 ((l1_1.length : Int) + 1)) (wrap64 (x71_1 + 1)) a0_0 l0_1 a1_0 l1_1 a0_0 y317) = some (r1, r2) := by first | (rw [hy317]; with_reducible exact H) | (have H2_ := (Option.bind_some _ _).symm.trans H; rw [hy317]; with_reducible exact H2_) | (have H2_ := (Option.bind_some _ _).symm.trans H; with_reducible exact H2_) | with_reducible exact H | (rw [hy317]; exact H) | exact H
       have Ny317 := Aside0.mk hy317
       clear hy317
       have H' := Aside0.mk H
       clear H
       try go_wp2
       have n0_ := Aside0.mk (Kd.R_drew HO_315001.out)
       have n1_ := Aside0.mk (blk_drew BK297.out)
       have n2_ := Aside0.mk (blk_drew BK298.out)
       have n3_ := Aside0.mk (blk_drew BK299.out)
       have n4_ := Aside0.mk (blk_drew BK314.out)
       have n5_ := Aside0.mk (below_drew1 HB.out)
       clear HO_315001
       clear BK297
       clear BK298
       clear BK299
       clear BK314
       clear HB
       have HO_315001 := n0_
       have BK297 := n1_
       have BK298 := n2_
       have BK299 := n3_
       have BK314 := n4_
       have HB := n5_
       clear n0_ n1_ n2_ n3_ n4_ n5_
       refine start_ (n := 12) (S := fun w' => w'.cell? ⟨gb297, 0, none⟩ = some (.bool a0_0) ∧ w'.cell? ⟨gb297, 1, none⟩ = some (.slice A0_1 l0_1.length c0_1) ∧ w'.cell? ⟨gb298, 0, none⟩ = some (.bool a1_0) ∧ w'.cell? ⟨gb298, 1, none⟩ = some (.slice A1_1 l1_1.length c1_1)) (ds := []) (bm 12 0) (by kernel_rfl) rfl rfl ⟨(blk_cell BK297.out 0).trans rfl, (blk_cell BK297.out 1).trans rfl, (blk_cell BK298.out 0).trans rfl, (blk_cell BK298.out 1).trans rfl⟩ (fun hHeld => ?_); refine with_tabW interchangeref1_Plus_th.tab21 interchangeref1_Plus_th.bits21 (fun HT_ HW_ => ?_)
       generalize wr.drew = w79 at HO_315001 BK297 BK298 BK299 BK314 HB hHeld ⊢
       refine pu 0 74 (bm 12 1) HT_ ?_
       refine pu 2 76 (bm 12 5) HT_ ?_
       refine pu 4 78 (bm 12 21) HT_ ?_
       refine pu 6 80 (bm 12 85) HT_ ?_
       refine pu 9 83 (bm 12 597) HT_ ?_
       refine ta4 1 75 (bm 12 599) HT_ HW_ hHeld ?_
       refine ta4 5 79 (bm 12 631) HT_ HW_ hHeld ?_
       refine one_ (i := 3) (N := some 77) (bm 12 639) rfl rfl (one_of HT_.out (by kernel_rfl)) (by decide) (fun K hK => ?_)
       refine gs Tryd.func34 #[.slice A0_1 l0_1.length c0_1, .int .i64 x71_1] ?_
       with_reducible refine (interchangeref1_digit.calls _ _ l0_1 x71_1 t315 _ (zc HR0_1) HC0_1.out A76.out).mono ?_
       rintro e w80 ⟨rfl, hb⟩
       refine ⟨_, rfl, ?_⟩
       have n0_ := rb HO_315001 hb
       have n1_ := bb BK297 hb
       have n2_ := bb BK298 hb
       have n3_ := bb BK299 hb
       have n4_ := bb BK314 hb
       have n5_ := hs w hb
       clear HO_315001
       clear BK297
       clear BK298
       clear BK299
       clear BK314
       clear HB
       have HO_315001 := n0_
       have BK297 := n1_
       have BK298 := n2_
       have BK299 := n3_
       have BK314 := n4_
       have HB := n5_
       clear n0_ n1_ n2_ n3_ n4_ n5_
       (try clear hb)
       (try clear hb2)
       (try clear hk)
       (try clear hi)
       refine hK.out _ _ ⟨(blk_cell BK297.out 0).trans rfl, (blk_cell BK297.out 1).trans rfl, (blk_cell BK298.out 0).trans rfl, (blk_cell BK298.out 1).trans rfl⟩ (fun hHeld => ?_)
       clear hK K
       refine norm_ (a' := ?_) ?_ ?_
       rotate_left
       ·show Act.put _ (some 77) _ = _
        simp only [sq, i64_w, i32_w]
        rfl
       refine one_ (i := 7) (N := some 81) (bm 12 767) rfl rfl (one_of HT_.out (by kernel_rfl)) (by decide) (fun K hK => ?_)
       refine gs Tryd.func34 #[.slice A1_1 l1_1.length c1_1, .int .i64 x71_1] ?_
       with_reducible refine (interchangeref1_digit.calls _ _ l1_1 x71_1 t316 _ (zc HR1_1) HC1_1.out A77.out).mono ?_
       rintro e w81 ⟨rfl, hb⟩
       refine ⟨_, rfl, ?_⟩
       have n0_ := rb HO_315001 hb
       have n1_ := bb BK297 hb
       have n2_ := bb BK298 hb
       have n3_ := bb BK299 hb
       have n4_ := bb BK314 hb
       have n5_ := hs w hb
       clear HO_315001
       clear BK297
       clear BK298
       clear BK299
       clear BK314
       clear HB
       have HO_315001 := n0_
       have BK297 := n1_
       have BK298 := n2_
       have BK299 := n3_
       have BK314 := n4_
       have HB := n5_
       clear n0_ n1_ n2_ n3_ n4_ n5_
       (try clear hb)
       (try clear hb2)
       (try clear hk)
       (try clear hi)
       refine hK.out _ _ ⟨(blk_cell BK297.out 0).trans rfl, (blk_cell BK297.out 1).trans rfl, (blk_cell BK298.out 0).trans rfl, (blk_cell BK298.out 1).trans rfl⟩ (fun hHeld => ?_)
       clear hK K
       refine norm_ (a' := ?_) ?_ ?_
       rotate_left
       ·show Act.put _ (some 81) _ = _
        simp only [sq, i64_w, i32_w]
        rfl
       refine pu 8 82 (bm 12 1023) HT_ ?_
       refine pu 10 84 (bm 12 2047) HT_ ?_
       refine pu 11 12 (bm 12 4095) HT_ ?_
       refine done_ (done_of HT_.out (by kernel_rfl)) ?_
       have hnb82 := NB314_297.out
       have hnc82 := NB297_314.out
       have hnb83 := NB314_298.out
       have hnc83 := NB298_314.out
       have hnb84 := NB314_299.out
       have hnc84 := NB299_314.out
       obtain ⟨hcz85_0, hcz85_1, hfz85_0, hfz85_1⟩ := cz2 BK314
       try go_wp2_with (first | ((with_reducible refine gate_builtin (b := .append) (xs := #[.tmp 86, .tmp 89]) rfl ?_); at_builtin; refine Kd.R_append (Kd.int .i64) (w0 := w) w.heap.size rfl (.tmp 86) (.tmp 89) 38 3 (.int .i64 0) 8 rfl Tryd.underlying38 info3 rfl (by decide) (by omega) u315001 x315001_1 (Int.tmod (wrap64 ((wrap64 (t315 + t316)) + x10_1)) 1000000) [.int .i64 (Int.tmod (wrap64 ((wrap64 (t315 + t316)) + x10_1)) 1000000)] (fun k_ => (w.heap.size ≤ k_)) (fun _ => False) rfl rfl ?aP (fun _ hk => hk.elim) ?aF ?aO ?aB ?aS ?aL ?_; (case aP => exact rfl); (case aB => exact (zb w)); (case aF => exact (fun k_ hk => (Nat.le_trans (below_size (zb w)) hk))); (case aO => exact (zo HO_315001)); (case aS => exact (below_size (zb w))); (case aL => have := LMc78.out; omega); intro v318 w86 ho hb hg hat; rw [← Ny317.out] at ho; replace BK297 := Aside0.mk (blk_grown (g := gb297) (o := .cells #[.bool a0_0, .slice A0_1 l0_1.length c0_1] 40 (0, 0)) (zk BK297) hg (Kd.R_ne HO_315001.out BK297.out (by decide))); replace BK298 := Aside0.mk (blk_grown (g := gb298) (o := .cells #[.bool a1_0, .slice A1_1 l1_1.length c1_1] 40 (0, 0)) (zk BK298) hg (Kd.R_ne HO_315001.out BK298.out (by decide))); replace BK299 := Aside0.mk (blk_grown (g := gb299) (o := .cells #[.bool false, .slice none 0 0] 40 (0, 0)) (zk BK299) hg (Kd.R_ne HO_315001.out BK299.out (by decide))); replace BK314 := Aside0.mk (blk_grown (g := gb314) (o := .cells #[.bool a0_0, u315001] 40 (0, 0)) (zk BK314) hg (Kd.R_ne HO_315001.out BK314.out (by decide))); replace HB := Aside0.mk (hb); have HO319 := Aside0.mk (ho); clear HO_315001; clear ho hb hg hat; obtain ⟨Ao87, co87, eo87⟩ := Kd.R_slice HO319.out; subst eo87; obtain ⟨hcz88_0, hcz88_1, hfz88_0, hfz88_1⟩ := cz2 BK314))
       go_roundg k1
       case measure => have := HK1.out; omega
       case rel => exact ⟨(wrap64 (Int.tdiv (wrap64 ((wrap64 (t315 + t316)) + x10_1)) 1000000)), (wrap64 (x71_1 + 1)), (y317), (.slice Ao87 y317.length co87), ar, ar, H', ⟨by have := HK1.out; omega⟩, ⟨by (with_reducible repeat (first | apply Kd.R_alloc | apply Kd.R_drewN | apply Kd.R_drew)); exact Kd.R_mono (Kd.R_far (p := ⟨gb314, 1, none⟩) (Kd.R_types HO319.out BK314.out (by decide)) (fun _ hk => hk.2) (.slice Ao87 y317.length co87)) (fun _ hk => hk.1)⟩, ⟨by (with_reducible repeat (first | refine blk_drewN ?_ _ | refine blk_drew ?_ | refine blk_alloc ?_ _)); refine blk_far ?_ NB297_314.out _; exact zk BK297⟩, ⟨by (with_reducible repeat (first | refine blk_drewN ?_ _ | refine blk_drew ?_ | refine blk_alloc ?_ _)); refine blk_far ?_ NB298_314.out _; exact zk BK298⟩, ⟨by (with_reducible repeat (first | refine blk_drewN ?_ _ | refine blk_drew ?_ | refine blk_alloc ?_ _)); refine blk_far ?_ NB299_314.out _; exact zk BK299⟩, ⟨by (with_reducible repeat (first | refine blk_drewN ?_ _ | refine blk_drew ?_ | refine blk_alloc ?_ _)); refine blk_put (cs := #[.bool a0_0, u315001]) ?_ 1 _ rfl; exact zk BK314⟩, ⟨(zb w)⟩⟩
      ·rw [if_neg c78] at H
       exact absurd H (by simp)
     ·rw [if_neg c75] at H
      have c75b0 : decide (x71_1 < (wrap64 ((l1_1.length : Int) + 1))) = false := decide_eq_false c75
      clear c75
      replace H := Option.bind_eq_some_iff.mp H
      obtain ⟨⟨t320, t321⟩, A890, H⟩ := H
      try dsimp only at H
      have A89 := Aside0.mk A890
      clear A890
      simp only [Option.some.injEq, Prod.mk.injEq] at H
      obtain ⟨rfl, rfl⟩ := H
      have hnb90 := NB314_297.out
      have hnc90 := NB297_314.out
      have hnb91 := NB314_298.out
      have hnc91 := NB298_314.out
      have hnb92 := NB314_299.out
      have hnc92 := NB299_314.out
      obtain ⟨hcz93_0, hcz93_1, hfz93_0, hfz93_1⟩ := cz2 BK314
      obtain ⟨Ao94, co94, eo94⟩ := Kd.R_slice HO_315001.out
      subst eo94
      go_wp2_with (first | ((with_reducible refine gC 35 rfl ?_); refine gl_ 96 Tryd.func35 #[.agg #[.bool a0_0, .slice Ao94 x315001_1.length co94]] ?_; (with_reducible refine (interchangeref1_trimmed.calls k1 a0_0 (fun k_ => some k_ = (.slice Ao94 x315001_1.length co94 : Value).ownBlock) _ _ x315001_1 t320 t321 _ ?side1 A89.out).mono ?_); (case side1 => exact Kd.R_V (Kd.R_tight rfl (Kd.R_types (Kd.R_types (Kd.R_types (Kd.R_types (HO_315001.out) BK297.out (by decide)) BK298.out (by decide)) BK299.out (by decide)) BK314.out (by decide)))); rintro e w95 ⟨v322, rfl, ho0, hb⟩; refine ⟨_, rfl, ?_⟩; have HO323 := Aside0.mk (Kd.V_lower (Kd.V_mono (ok' := fun k_ => (w.heap.size ≤ k_) ∧ k_ ≠ gb297 ∧ k_ ≠ gb298 ∧ k_ ≠ gb299 ∧ k_ ≠ gb314) ho0 (fun k_ hk_ => ⟨Or.elim hk_ (fun hs_ => ((Kd.R_types (Kd.R_types (Kd.R_types (Kd.R_types (HO_315001.out) BK297.out (by decide)) BK298.out (by decide)) BK299.out (by decide)) BK314.out (by decide)).1 k_ hs_.symm).1.1.1.1) (fun hn_ => (Nat.le_trans (below_size (zb w)) hn_)), Or.elim hk_ (fun hs_ => ((Kd.R_types (Kd.R_types (Kd.R_types (Kd.R_types (HO_315001.out) BK297.out (by decide)) BK298.out (by decide)) BK299.out (by decide)) BK314.out (by decide)).1 k_ hs_.symm).1.1.1.2) (fun hn_ => (Kd.freshB (g := gb297) (o := .cells #[.bool a0_0, .slice A0_1 l0_1.length c0_1] 40 (0, 0)) (zk BK297) k_ hn_)), Or.elim hk_ (fun hs_ => ((Kd.R_types (Kd.R_types (Kd.R_types (Kd.R_types (HO_315001.out) BK297.out (by decide)) BK298.out (by decide)) BK299.out (by decide)) BK314.out (by decide)).1 k_ hs_.symm).1.1.2) (fun hn_ => (Kd.freshB (g := gb298) (o := .cells #[.bool a1_0, .slice A1_1 l1_1.length c1_1] 40 (0, 0)) (zk BK298) k_ hn_)), Or.elim hk_ (fun hs_ => ((Kd.R_types (Kd.R_types (Kd.R_types (Kd.R_types (HO_315001.out) BK297.out (by decide)) BK298.out (by decide)) BK299.out (by decide)) BK314.out (by decide)).1 k_ hs_.symm).1.2) (fun hn_ => (Kd.freshB (g := gb299) (o := .cells #[.bool false, .slice none 0 0] 40 (0, 0)) (zk BK299) k_ hn_)), Or.elim hk_ (fun hs_ => ((Kd.R_types (Kd.R_types (Kd.R_types (Kd.R_types (HO_315001.out) BK297.out (by decide)) BK298.out (by decide)) BK299.out (by decide)) BK314.out (by decide)).1 k_ hs_.symm).2) (fun hn_ => (Kd.freshB (g := gb314) (o := .cells #[.bool a0_0, .slice Ao94 x315001_1.length co94] 40 (0, 0)) (zk BK314) k_ hn_))⟩)) (below_size (zb w))); replace HO_315001 := rb HO_315001 hb; replace BK297 := bb BK297 hb; replace BK298 := bb BK298 hb; replace BK299 := bb BK299 hb; replace BK314 := bb BK314 hb; replace HB := hs w hb; (try clear hb); (try clear ho0); have hnb96 := NB299_297.out; have hnc96 := NB297_299.out; have hnb97 := NB299_298.out; have hnc97 := NB298_299.out; obtain ⟨hcz98_0, hcz98_1, hfz98_0, hfz98_1⟩ := cz2 BK299; obtain ⟨Ao99, co99, eo99⟩ := Kd.V_slice HO323.out; subst eo99))
      refine bodyPost_ret (results_cell_row rfl _ _ gb299 40 #[.bool t320, .slice Ao99 t321.length co99] (0, 0) _ rfl (by (with_reducible repeat (first | refine blk_drewN ?_ _ | refine blk_drew ?_ | refine blk_alloc ?_ _)); refine blk_put (cs := #[.bool t320, .slice none 0 0]) ?_ 1 _ rfl; (with_reducible repeat (first | refine blk_drewN ?_ _ | refine blk_drew ?_ | refine blk_alloc ?_ _)); refine blk_put (cs := #[.bool false, .slice none 0 0]) ?_ 0 _ rfl; exact zk BK299) Tryd.underlying40 rfl (by kernel_rfl)) rfl ?_
      exact ⟨_, by first | rfl | (simp [errW_none, errW_some] <;> rfl) | (simp [*, errW_none, errW_some] <;> rfl), by (with_reducible repeat (first | apply Kd.V_alloc | apply Kd.V_drewN | apply Kd.V_drew)); exact Kd.V_mono (Kd.V_far (p := ⟨gb299, 1, none⟩) (Kd.V_far (p := ⟨gb299, 0, none⟩) (Kd.V_mono HO323.out (fun k_ hk => (⟨hk, hk.2.2.2.1⟩ : _ ∧ k_ ≠ gb299))) (fun _ hk => hk.2) (.bool t320)) (fun _ hk => hk.2) (.slice Ao99 t321.length co99)) (fun _ hk => hk.1.1), (zb w)⟩
  ·rw [if_neg c59] at H
   have c59i := eq_false c59
   have c59b0 : decide ((l0_1.length : Int) < (l1_1.length : Int)) = false := decide_eq_false c59
   have c59b1 : decide (l0_1.length < l1_1.length) = false := decide_eq_false (fun h => c59 (Int.ofNat_lt.mpr h))
   clear c59
   have H' := Aside0.mk H
   clear H
   go_enter Tryd.func17, Tryd.ntmps17
   go_wp2_with (first | ((with_reducible refine gD 2 rfl ?_); refine bx w 2 #[.bool a0_0, .slice A0_1 l0_1.length c0_1] 40 ?_; intro gb297 hg w100 hb BK297 GW297 GE297; clear HB; intro HB; clear hb hg) | ((with_reducible refine gD 3 rfl ?_); refine bx w 3 #[.bool a1_0, .slice A1_1 l1_1.length c1_1] 40 ?_; intro gb298 hg w101 hb BK298 GW298 GE298; clear HB; intro HB; have NB297_298 := nbl BK297 hg; have NB298_297 := nbr BK297 hg; replace BK297 := bb BK297 hb; clear hb hg) | ((with_reducible refine gD 4 rfl ?_); refine bx w 4 #[.bool false, .slice none 0 0] 40 ?_; intro gb299 hg w102 hb BK299 GW299 GE299; clear HB; intro HB; have NB297_299 := nbl BK297 hg; have NB299_297 := nbr BK297 hg; replace BK297 := bb BK297 hb; have NB298_299 := nbl BK298 hg; have NB299_298 := nbr BK298 hg; replace BK298 := bb BK298 hb; clear hb hg; have hnb103 := NB297_298.out; have hnc103 := NB298_297.out; have hnb104 := NB297_299.out; have hnc104 := NB299_297.out; obtain ⟨hcz105_0, hcz105_1, hfz105_0, hfz105_1⟩ := cz2 BK297; have hnb106 := NB298_299.out; have hnc106 := NB299_298.out; obtain ⟨hcz107_0, hcz107_1, hfz107_0, hfz107_1⟩ := cz2 BK298) | ((with_reducible refine gD 9 rfl ?_); refine bx w 9 #[.bool false, .slice none 0 0] 40 ?_; intro gb314 hg w108 hb BK314 GW314 GE314; clear HB; intro HB; have NB297_314 := nbl BK297 hg; have NB314_297 := nbr BK297 hg; replace BK297 := bb BK297 hb; have NB298_314 := nbl BK298 hg; have NB314_298 := nbr BK298 hg; replace BK298 := bb BK298 hb; have NB299_314 := nbl BK299 hg; have NB314_299 := nbr BK299 hg; replace BK299 := bb BK299 hb; clear hb hg; have hnb109 := NB314_297.out; have hnc109 := NB297_314.out; have hnb110 := NB314_298.out; have hnc110 := NB298_314.out; have hnb111 := NB314_299.out; have hnc111 := NB299_314.out; obtain ⟨hcz112_0, hcz112_1, hfz112_0, hfz112_1⟩ := cz2 BK314; obtain ⟨hcz113_0, hcz113_1, hfz113_0, hfz113_1⟩ := cz2 BK297; obtain ⟨hcz114_0, hcz114_1, hfz114_0, hfz114_1⟩ := cz2 BK298))
   try simp only [sq]
   go_loopg [10, 71] k (fun kq v10 v71 w' => ∃ (x10_1 : Int) (x71_1 : Int) (x315001_1 : List Int) (u315001 : Value), v10 = .int .i64 x10_1 ∧ v71 = .int .i64 x71_1 ∧ Aside0 (interchangeref1_Plus_th.l1 kq x10_1 (wrap64 ((l0_1.length : Int) + 1)) x71_1 a0_0 l0_1 a1_0 l1_1 a0_0 x315001_1 = some (r1, r2)) ∧ Aside0 (kq ≤ k) ∧ Aside0 (Kd.R (Kd.int .i64) 3 w' w.heap.size (fun k_ => (w.heap.size ≤ k_)) u315001 x315001_1) ∧ Aside0 (w'.heap[gb297]? = some (.cells #[.bool a0_0, (.slice A0_1 l0_1.length c0_1)] 40 (0, 0))) ∧ Aside0 (w'.heap[gb298]? = some (.cells #[.bool a1_0, (.slice A1_1 l1_1.length c1_1)] 40 (0, 0))) ∧ Aside0 (w'.heap[gb299]? = some (.cells #[.bool false, (.slice none 0 0)] 40 (0, 0))) ∧ Aside0 (w'.heap[gb314]? = some (.cells #[.bool a0_0, u315001] 40 (0, 0))) ∧ Aside0 (Below w.heap.size w w'))
   case atStart => exact ⟨(0), (0), (([] : List Int)), (.slice none 0 0), ar, ar, H', ⟨Nat.le_refl _⟩, ⟨by first | exact Kd.R_nil _ _ _ _ _ | exact Kd.N_nil _ _ _ _ _ | exact Kd.V_nil _ _ _ _ _ | exact Kd.Q_nil _ _ _ _ _ | exact Kd.S_nil _ _ _ _ _⟩, ⟨by (with_reducible repeat (first | refine blk_drewN ?_ _ | refine blk_drew ?_ | refine blk_alloc ?_ _)); refine blk_far ?_ NB297_314.out _; (with_reducible repeat (first | refine blk_drewN ?_ _ | refine blk_drew ?_ | refine blk_alloc ?_ _)); refine blk_far ?_ NB297_314.out _; exact zk BK297⟩, ⟨by (with_reducible repeat (first | refine blk_drewN ?_ _ | refine blk_drew ?_ | refine blk_alloc ?_ _)); refine blk_far ?_ NB298_314.out _; (with_reducible repeat (first | refine blk_drewN ?_ _ | refine blk_drew ?_ | refine blk_alloc ?_ _)); refine blk_far ?_ NB298_314.out _; exact zk BK298⟩, ⟨by (with_reducible repeat (first | refine blk_drewN ?_ _ | refine blk_drew ?_ | refine blk_alloc ?_ _)); refine blk_far ?_ NB299_314.out _; (with_reducible repeat (first | refine blk_drewN ?_ _ | refine blk_drew ?_ | refine blk_alloc ?_ _)); refine blk_far ?_ NB299_314.out _; exact zk BK299⟩, ⟨by (with_reducible repeat (first | refine blk_drewN ?_ _ | refine blk_drew ?_ | refine blk_alloc ?_ _)); refine blk_put (cs := #[.bool a0_0, .slice none 0 0]) ?_ 1 _ rfl; (with_reducible repeat (first | refine blk_drewN ?_ _ | refine blk_drew ?_ | refine blk_alloc ?_ _)); refine blk_put (cs := #[.bool false, .slice none 0 0]) ?_ 0 _ rfl; exact zk BK314⟩, ⟨(zb w)⟩⟩
   case round =>
    clear H'
    try clear c1
    try clear c2
    try clear p2
    try clear c3
    try clear c3b0
    try clear p3
    try clear q3
    try clear hx3
    try clear c4
    try clear c5
    try clear c5b0
    try clear c6
    try clear p6
    try clear c7
    try clear c8
    try clear c9
    try clear c10
    try clear c11
    try clear c12
    try clear c17
    try clear c18
    try clear c19
    try clear c20
    try clear c23
    try clear c23b0
    try clear c24
    try clear c24b0
    try clear c25
    try clear c25b0
    try clear c27
    try clear c27b0
    try clear c28
    try clear p30
    try clear q30
    try clear hx30
    try clear c31
    try clear c32
    try clear c33
    try clear c34
    try clear c35
    try clear c38
    try clear c41
    try clear c42
    try clear c43
    try clear c49
    try clear c50
    try clear c51
    try clear c55
    try clear c56
    try clear c59
    try clear c59b0
    try clear c59b1
    try clear c63
    try clear c64
    try clear p64
    try clear c66
    try clear c69
    try clear c70
    try clear c71
    try clear c75
    try clear c75b0
    try clear c78
    try clear c82
    try clear c83
    try clear c84
    try clear c90
    try clear c91
    try clear c92
    try clear c96
    try clear c97
    try clear c103
    try clear c104
    try clear c106
    try clear c109
    try clear c110
    try clear c111
    try clear hcz105_0 hcz105_1
    try clear hcz107_0 hcz107_1
    try clear hcz112_0 hcz112_1
    try clear hcz113_0 hcz113_1
    try clear hcz114_0 hcz114_1
    try clear hcz11_0 hcz11_1
    try clear hcz13_0 hcz13_1
    try clear hcz15_0 hcz15_1
    try clear hcz16_0 hcz16_1
    try clear hcz21_0 hcz21_1
    try clear hcz22_0 hcz22_1
    try clear hcz34_0 hcz34_1
    try clear hcz37_0 hcz37_1
    try clear hcz44_0 hcz44_1
    try clear hcz47_0 hcz47_1
    try clear hcz52_0 hcz52_1
    try clear hcz57_0 hcz57_1
    try clear hcz65_0 hcz65_1
    try clear hcz67_0 hcz67_1
    try clear hcz72_0 hcz72_1
    try clear hcz73_0 hcz73_1
    try clear hcz74_0 hcz74_1
    try clear hcz85_0 hcz85_1
    try clear hcz88_0 hcz88_1
    try clear hcz93_0 hcz93_1
    try clear hcz98_0 hcz98_1
    try clear hfz105_0 hfz105_1
    try clear hfz107_0 hfz107_1
    try clear hfz112_0 hfz112_1
    try clear hfz113_0 hfz113_1
    try clear hfz114_0 hfz114_1
    try clear hfz11_0 hfz11_1
    try clear hfz13_0 hfz13_1
    try clear hfz15_0 hfz15_1
    try clear hfz16_0 hfz16_1
    try clear hfz21_0 hfz21_1
    try clear hfz22_0 hfz22_1
    try clear hfz34_0 hfz34_1
    try clear hfz37_0 hfz37_1
    try clear hfz44_0 hfz44_1
    try clear hfz47_0 hfz47_1
    try clear hfz52_0 hfz52_1
    try clear hfz57_0 hfz57_1
    try clear hfz65_0 hfz65_1
    try clear hfz67_0 hfz67_1
    try clear hfz72_0 hfz72_1
    try clear hfz73_0 hfz73_1
    try clear hfz74_0 hfz74_1
    try clear hfz85_0 hfz85_1
    try clear hfz88_0 hfz88_1
    try clear hfz93_0 hfz93_1
    try clear hfz98_0 hfz98_1
    try clear hx302_0
    try clear p2
    try clear p3
    try clear p30
    try clear p302
    try clear p6
    try clear p64
    try clear q3
    try clear q30
    try clear q302
    obtain ⟨x10_1, x71_1, x315001_1, u315001, rfl, rfl, HA, HK1, HO_315001, BK297, BK298, BK299, BK314, HB⟩ := hrel
    cases gk with
    | zero => exact absurd HA.out (by simp [interchangeref1_Plus_th.l1])
    | succ k1 =>
     have H := HA.out
     clear HA
     simp only [interchangeref1_Plus_th.l1] at H
     by_cases c115 : x71_1 < (wrap64 ((l0_1.length : Int) + 1))
     ·rw [if_pos c115] at H
      have c115b0 : decide (x71_1 < (wrap64 ((l0_1.length : Int) + 1))) = true := decide_eq_true c115
      clear c115
      replace H := Option.bind_eq_some_iff.mp H
      obtain ⟨t315, A1160, H⟩ := H
      try dsimp only at H
      have A116 := Aside0.mk A1160
      clear A1160
      replace H := Option.bind_eq_some_iff.mp H
      obtain ⟨t316, A1170, H⟩ := H
      try dsimp only at H
      have A117 := Aside0.mk A1170
      clear A1170
      by_cases c118 : x315001_1.length < 17592186044416
      ·rw [if_pos c118] at H
       have LMc118 := Aside0.mk c118
       clear c118
       obtain ⟨y317, hy317⟩ : ∃ y_ : List Int, y_ = (x315001_1 ++ [Int.tmod (wrap64 ((wrap64 (t315 + t316)) + x10_1)) 1000000]) := ⟨_, rfl⟩
       replace H : (interchangeref1_Plus_th.l1 k1 (wrap64 (Int.tdiv (wrap64 ((wrap64 (t315 + t316)) + x10_1)) 1000000)) (wrap64 ((l0_1.length : Int) + 1)) (wrap64 (x71_1 + 1)) a0_0 l0_1 a1_0 l1_1 a0_0 y317) = some (r1, r2) := by first | (rw [hy317]; with_reducible exact H) | (have H2_ := (Option.bind_some _ _).symm.trans H; rw [hy317]; with_reducible exact H2_) | (have H2_ := (Option.bind_some _ _).symm.trans H; with_reducible exact H2_) | with_reducible exact H | (rw [hy317]; exact H) | exact H
       have Ny317 := Aside0.mk hy317
       clear hy317
       have H' := Aside0.mk H
       clear H
       try go_wp2
       have n0_ := Aside0.mk (Kd.R_drew HO_315001.out)
       have n1_ := Aside0.mk (blk_drew BK297.out)
       have n2_ := Aside0.mk (blk_drew BK298.out)
       have n3_ := Aside0.mk (blk_drew BK299.out)
       have n4_ := Aside0.mk (blk_drew BK314.out)
       have n5_ := Aside0.mk (below_drew1 HB.out)
       clear HO_315001
       clear BK297
       clear BK298
       clear BK299
       clear BK314
       clear HB
       have HO_315001 := n0_
       have BK297 := n1_
       have BK298 := n2_
       have BK299 := n3_
       have BK314 := n4_
       have HB := n5_
       clear n0_ n1_ n2_ n3_ n4_ n5_
       refine start_ (n := 12) (S := fun w' => w'.cell? ⟨gb297, 0, none⟩ = some (.bool a0_0) ∧ w'.cell? ⟨gb297, 1, none⟩ = some (.slice A0_1 l0_1.length c0_1) ∧ w'.cell? ⟨gb298, 0, none⟩ = some (.bool a1_0) ∧ w'.cell? ⟨gb298, 1, none⟩ = some (.slice A1_1 l1_1.length c1_1)) (ds := []) (bm 12 0) (by kernel_rfl) rfl rfl ⟨(blk_cell BK297.out 0).trans rfl, (blk_cell BK297.out 1).trans rfl, (blk_cell BK298.out 0).trans rfl, (blk_cell BK298.out 1).trans rfl⟩ (fun hHeld => ?_); refine with_tabW interchangeref1_Plus_th.tab21 interchangeref1_Plus_th.bits21 (fun HT_ HW_ => ?_)
       generalize wr.drew = w119 at HO_315001 BK297 BK298 BK299 BK314 HB hHeld ⊢
       refine pu 0 74 (bm 12 1) HT_ ?_
       refine pu 2 76 (bm 12 5) HT_ ?_
       refine pu 4 78 (bm 12 21) HT_ ?_
       refine pu 6 80 (bm 12 85) HT_ ?_
       refine pu 9 83 (bm 12 597) HT_ ?_
       refine ta4 1 75 (bm 12 599) HT_ HW_ hHeld ?_
       refine ta4 5 79 (bm 12 631) HT_ HW_ hHeld ?_
       refine one_ (i := 3) (N := some 77) (bm 12 639) rfl rfl (one_of HT_.out (by kernel_rfl)) (by decide) (fun K hK => ?_)
       refine gs Tryd.func34 #[.slice A0_1 l0_1.length c0_1, .int .i64 x71_1] ?_
       with_reducible refine (interchangeref1_digit.calls _ _ l0_1 x71_1 t315 _ (zc HR0_1) HC0_1.out A116.out).mono ?_
       rintro e w120 ⟨rfl, hb⟩
       refine ⟨_, rfl, ?_⟩
       have n0_ := rb HO_315001 hb
       have n1_ := bb BK297 hb
       have n2_ := bb BK298 hb
       have n3_ := bb BK299 hb
       have n4_ := bb BK314 hb
       have n5_ := hs w hb
       clear HO_315001
       clear BK297
       clear BK298
       clear BK299
       clear BK314
       clear HB
       have HO_315001 := n0_
       have BK297 := n1_
       have BK298 := n2_
       have BK299 := n3_
       have BK314 := n4_
       have HB := n5_
       clear n0_ n1_ n2_ n3_ n4_ n5_
       (try clear hb)
       (try clear hb2)
       (try clear hk)
       (try clear hi)
       refine hK.out _ _ ⟨(blk_cell BK297.out 0).trans rfl, (blk_cell BK297.out 1).trans rfl, (blk_cell BK298.out 0).trans rfl, (blk_cell BK298.out 1).trans rfl⟩ (fun hHeld => ?_)
       clear hK K
       refine norm_ (a' := ?_) ?_ ?_
       rotate_left
       ·show Act.put _ (some 77) _ = _
        simp only [sq, i64_w, i32_w]
        rfl
       refine one_ (i := 7) (N := some 81) (bm 12 767) rfl rfl (one_of HT_.out (by kernel_rfl)) (by decide) (fun K hK => ?_)
       refine gs Tryd.func34 #[.slice A1_1 l1_1.length c1_1, .int .i64 x71_1] ?_
       with_reducible refine (interchangeref1_digit.calls _ _ l1_1 x71_1 t316 _ (zc HR1_1) HC1_1.out A117.out).mono ?_
       rintro e w121 ⟨rfl, hb⟩
       refine ⟨_, rfl, ?_⟩
       have n0_ := rb HO_315001 hb
       have n1_ := bb BK297 hb
       have n2_ := bb BK298 hb
       have n3_ := bb BK299 hb
       have n4_ := bb BK314 hb
       have n5_ := hs w hb
       clear HO_315001
       clear BK297
       clear BK298
       clear BK299
       clear BK314
       clear HB
       have HO_315001 := n0_
       have BK297 := n1_
       have BK298 := n2_
       have BK299 := n3_
       have BK314 := n4_
       have HB := n5_
       clear n0_ n1_ n2_ n3_ n4_ n5_
       (try clear hb)
       (try clear hb2)
       (try clear hk)
       (try clear hi)
       refine hK.out _ _ ⟨(blk_cell BK297.out 0).trans rfl, (blk_cell BK297.out 1).trans rfl, (blk_cell BK298.out 0).trans rfl, (blk_cell BK298.out 1).trans rfl⟩ (fun hHeld => ?_)
       clear hK K
       refine norm_ (a' := ?_) ?_ ?_
       rotate_left
       ·show Act.put _ (some 81) _ = _
        simp only [sq, i64_w, i32_w]
        rfl
       refine pu 8 82 (bm 12 1023) HT_ ?_
       refine pu 10 84 (bm 12 2047) HT_ ?_
       refine pu 11 12 (bm 12 4095) HT_ ?_
       refine done_ (done_of HT_.out (by kernel_rfl)) ?_
       have hnb122 := NB314_297.out
       have hnc122 := NB297_314.out
       have hnb123 := NB314_298.out
       have hnc123 := NB298_314.out
       have hnb124 := NB314_299.out
       have hnc124 := NB299_314.out
       obtain ⟨hcz125_0, hcz125_1, hfz125_0, hfz125_1⟩ := cz2 BK314
       try go_wp2_with (first | ((with_reducible refine gate_builtin (b := .append) (xs := #[.tmp 86, .tmp 89]) rfl ?_); at_builtin; refine Kd.R_append (Kd.int .i64) (w0 := w) w.heap.size rfl (.tmp 86) (.tmp 89) 38 3 (.int .i64 0) 8 rfl Tryd.underlying38 info3 rfl (by decide) (by omega) u315001 x315001_1 (Int.tmod (wrap64 ((wrap64 (t315 + t316)) + x10_1)) 1000000) [.int .i64 (Int.tmod (wrap64 ((wrap64 (t315 + t316)) + x10_1)) 1000000)] (fun k_ => (w.heap.size ≤ k_)) (fun _ => False) rfl rfl ?aP (fun _ hk => hk.elim) ?aF ?aO ?aB ?aS ?aL ?_; (case aP => exact rfl); (case aB => exact (zb w)); (case aF => exact (fun k_ hk => (Nat.le_trans (below_size (zb w)) hk))); (case aO => exact (zo HO_315001)); (case aS => exact (below_size (zb w))); (case aL => have := LMc118.out; omega); intro v318 w126 ho hb hg hat; rw [← Ny317.out] at ho; replace BK297 := Aside0.mk (blk_grown (g := gb297) (o := .cells #[.bool a0_0, .slice A0_1 l0_1.length c0_1] 40 (0, 0)) (zk BK297) hg (Kd.R_ne HO_315001.out BK297.out (by decide))); replace BK298 := Aside0.mk (blk_grown (g := gb298) (o := .cells #[.bool a1_0, .slice A1_1 l1_1.length c1_1] 40 (0, 0)) (zk BK298) hg (Kd.R_ne HO_315001.out BK298.out (by decide))); replace BK299 := Aside0.mk (blk_grown (g := gb299) (o := .cells #[.bool false, .slice none 0 0] 40 (0, 0)) (zk BK299) hg (Kd.R_ne HO_315001.out BK299.out (by decide))); replace BK314 := Aside0.mk (blk_grown (g := gb314) (o := .cells #[.bool a0_0, u315001] 40 (0, 0)) (zk BK314) hg (Kd.R_ne HO_315001.out BK314.out (by decide))); replace HB := Aside0.mk (hb); have HO319 := Aside0.mk (ho); clear HO_315001; clear ho hb hg hat; obtain ⟨Ao127, co127, eo127⟩ := Kd.R_slice HO319.out; subst eo127; obtain ⟨hcz128_0, hcz128_1, hfz128_0, hfz128_1⟩ := cz2 BK314))
       go_roundg k1
       case measure => have := HK1.out; omega
       case rel => exact ⟨(wrap64 (Int.tdiv (wrap64 ((wrap64 (t315 + t316)) + x10_1)) 1000000)), (wrap64 (x71_1 + 1)), (y317), (.slice Ao127 y317.length co127), ar, ar, H', ⟨by have := HK1.out; omega⟩, ⟨by (with_reducible repeat (first | apply Kd.R_alloc | apply Kd.R_drewN | apply Kd.R_drew)); exact Kd.R_mono (Kd.R_far (p := ⟨gb314, 1, none⟩) (Kd.R_types HO319.out BK314.out (by decide)) (fun _ hk => hk.2) (.slice Ao127 y317.length co127)) (fun _ hk => hk.1)⟩, ⟨by (with_reducible repeat (first | refine blk_drewN ?_ _ | refine blk_drew ?_ | refine blk_alloc ?_ _)); refine blk_far ?_ NB297_314.out _; exact zk BK297⟩, ⟨by (with_reducible repeat (first | refine blk_drewN ?_ _ | refine blk_drew ?_ | refine blk_alloc ?_ _)); refine blk_far ?_ NB298_314.out _; exact zk BK298⟩, ⟨by (with_reducible repeat (first | refine blk_drewN ?_ _ | refine blk_drew ?_ | refine blk_alloc ?_ _)); refine blk_far ?_ NB299_314.out _; exact zk BK299⟩, ⟨by (with_reducible repeat (first | refine blk_drewN ?_ _ | refine blk_drew ?_ | refine blk_alloc ?_ _)); refine blk_put (cs := #[.bool a0_0, u315001]) ?_ 1 _ rfl; exact zk BK314⟩, ⟨(zb w)⟩⟩
      ·rw [if_neg c118] at H
       exact absurd H (by simp)
     ·rw [if_neg c115] at H
      have c115b0 : decide (x71_1 < (wrap64 ((l0_1.length : Int) + 1))) = false := decide_eq_false c115
      clear c115
      replace H := Option.bind_eq_some_iff.mp H
      obtain ⟨⟨t320, t321⟩, A1290, H⟩ := H
      try dsimp only at H
      have A129 := Aside0.mk A1290
      clear A1290
      simp only [Option.some.injEq, Prod.mk.injEq] at H
      obtain ⟨rfl, rfl⟩ := H
      have hnb130 := NB314_297.out
      have hnc130 := NB297_314.out
      have hnb131 := NB314_298.out
      have hnc131 := NB298_314.out
      have hnb132 := NB314_299.out
      have hnc132 := NB299_314.out
      obtain ⟨hcz133_0, hcz133_1, hfz133_0, hfz133_1⟩ := cz2 BK314
      obtain ⟨Ao134, co134, eo134⟩ := Kd.R_slice HO_315001.out
      subst eo134
      go_wp2_with (first | ((with_reducible refine gC 35 rfl ?_); refine gl_ 96 Tryd.func35 #[.agg #[.bool a0_0, .slice Ao134 x315001_1.length co134]] ?_; (with_reducible refine (interchangeref1_trimmed.calls k1 a0_0 (fun k_ => some k_ = (.slice Ao134 x315001_1.length co134 : Value).ownBlock) _ _ x315001_1 t320 t321 _ ?side1 A129.out).mono ?_); (case side1 => exact Kd.R_V (Kd.R_tight rfl (Kd.R_types (Kd.R_types (Kd.R_types (Kd.R_types (HO_315001.out) BK297.out (by decide)) BK298.out (by decide)) BK299.out (by decide)) BK314.out (by decide)))); rintro e w135 ⟨v322, rfl, ho0, hb⟩; refine ⟨_, rfl, ?_⟩; have HO323 := Aside0.mk (Kd.V_lower (Kd.V_mono (ok' := fun k_ => (w.heap.size ≤ k_) ∧ k_ ≠ gb297 ∧ k_ ≠ gb298 ∧ k_ ≠ gb299 ∧ k_ ≠ gb314) ho0 (fun k_ hk_ => ⟨Or.elim hk_ (fun hs_ => ((Kd.R_types (Kd.R_types (Kd.R_types (Kd.R_types (HO_315001.out) BK297.out (by decide)) BK298.out (by decide)) BK299.out (by decide)) BK314.out (by decide)).1 k_ hs_.symm).1.1.1.1) (fun hn_ => (Nat.le_trans (below_size (zb w)) hn_)), Or.elim hk_ (fun hs_ => ((Kd.R_types (Kd.R_types (Kd.R_types (Kd.R_types (HO_315001.out) BK297.out (by decide)) BK298.out (by decide)) BK299.out (by decide)) BK314.out (by decide)).1 k_ hs_.symm).1.1.1.2) (fun hn_ => (Kd.freshB (g := gb297) (o := .cells #[.bool a0_0, .slice A0_1 l0_1.length c0_1] 40 (0, 0)) (zk BK297) k_ hn_)), Or.elim hk_ (fun hs_ => ((Kd.R_types (Kd.R_types (Kd.R_types (Kd.R_types (HO_315001.out) BK297.out (by decide)) BK298.out (by decide)) BK299.out (by decide)) BK314.out (by decide)).1 k_ hs_.symm).1.1.2) (fun hn_ => (Kd.freshB (g := gb298) (o := .cells #[.bool a1_0, .slice A1_1 l1_1.length c1_1] 40 (0, 0)) (zk BK298) k_ hn_)), Or.elim hk_ (fun hs_ => ((Kd.R_types (Kd.R_types (Kd.R_types (Kd.R_types (HO_315001.out) BK297.out (by decide)) BK298.out (by decide)) BK299.out (by decide)) BK314.out (by decide)).1 k_ hs_.symm).1.2) (fun hn_ => (Kd.freshB (g := gb299) (o := .cells #[.bool false, .slice none 0 0] 40 (0, 0)) (zk BK299) k_ hn_)), Or.elim hk_ (fun hs_ => ((Kd.R_types (Kd.R_types (Kd.R_types (Kd.R_types (HO_315001.out) BK297.out (by decide)) BK298.out (by decide)) BK299.out (by decide)) BK314.out (by decide)).1 k_ hs_.symm).2) (fun hn_ => (Kd.freshB (g := gb314) (o := .cells #[.bool a0_0, .slice Ao134 x315001_1.length co134] 40 (0, 0)) (zk BK314) k_ hn_))⟩)) (below_size (zb w))); replace HO_315001 := rb HO_315001 hb; replace BK297 := bb BK297 hb; replace BK298 := bb BK298 hb; replace BK299 := bb BK299 hb; replace BK314 := bb BK314 hb; replace HB := hs w hb; (try clear hb); (try clear ho0); have hnb136 := NB299_297.out; have hnc136 := NB297_299.out; have hnb137 := NB299_298.out; have hnc137 := NB298_299.out; obtain ⟨hcz138_0, hcz138_1, hfz138_0, hfz138_1⟩ := cz2 BK299; obtain ⟨Ao139, co139, eo139⟩ := Kd.V_slice HO323.out; subst eo139))
      refine bodyPost_ret (results_cell_row rfl _ _ gb299 40 #[.bool t320, .slice Ao139 t321.length co139] (0, 0) _ rfl (by (with_reducible repeat (first | refine blk_drewN ?_ _ | refine blk_drew ?_ | refine blk_alloc ?_ _)); refine blk_put (cs := #[.bool t320, .slice none 0 0]) ?_ 1 _ rfl; (with_reducible repeat (first | refine blk_drewN ?_ _ | refine blk_drew ?_ | refine blk_alloc ?_ _)); refine blk_put (cs := #[.bool false, .slice none 0 0]) ?_ 0 _ rfl; exact zk BK299) Tryd.underlying40 rfl (by kernel_rfl)) rfl ?_
      exact ⟨_, by first | rfl | (simp [errW_none, errW_some] <;> rfl) | (simp [*, errW_none, errW_some] <;> rfl), by (with_reducible repeat (first | apply Kd.V_alloc | apply Kd.V_drewN | apply Kd.V_drew)); exact Kd.V_mono (Kd.V_far (p := ⟨gb299, 1, none⟩) (Kd.V_far (p := ⟨gb299, 0, none⟩) (Kd.V_mono HO323.out (fun k_ hk => (⟨hk, hk.2.2.2.1⟩ : _ ∧ k_ ≠ gb299))) (fun _ hk => hk.2) (.bool t320)) (fun _ hk => hk.2) (.slice Ao139 t321.length co139)) (fun _ hk => hk.1.1), (zb w)⟩

def interchangeref1_Plus.f (k : Nat) (a0_0 : Bool) (l0_1 : List Int) (a1_0 : Bool) (l1_1 : List Int) : Option (Bool × List Int) := if (!(a0_0 == a1_0)) = true then ((interchangeref1_sizes.f k l0_1 l1_1).bind fun t => if t < 0 then interchangeref1_Plus_th.f k a0_0 l0_1 a1_0 l1_1 else interchangeref1_Plus_fo.f k a0_0 l0_1 a1_0 l1_1) else interchangeref1_Plus_fo.f k a0_0 l0_1 a1_0 l1_1
theorem interchangeref1_Plus.mono : ∀ a0 a1 a2 a3 k, LeO (interchangeref1_Plus.f k a0 a1 a2 a3) (interchangeref1_Plus.f (k + 1) a0 a1 a2 a3) := by
 intro a0 a1 a2 a3 k
 unfold interchangeref1_Plus.f
 refine LeO.ite (LeO.bind (interchangeref1_sizes.mono _ _ _) (fun _ => LeO.ite (interchangeref1_Plus_th.mono _ _ _ _ _) (interchangeref1_Plus_fo.mono _ _ _ _ _))) (interchangeref1_Plus_fo.mono _ _ _ _ _)
theorem interchangeref1_Plus.calls (k : Nat) (a0_0 : Bool) (A0_1 : Option Addr) (c0_1 : Nat) (l0_1 : List Int) (a1_0 : Bool) (A1_1 : Option Addr) (c1_1 : Nat) (l1_1 : List Int) (r1 : Bool) (r2 : List Int) (w : World) (hr0_1 : Kd.C (Kd.int .i64) w A0_1 l0_1.length l0_1) (hc0_1 : l0_1.length ≤ c0_1) (hr1_1 : Kd.C (Kd.int .i64) w A1_1 l1_1.length l1_1) (hc1_1 : l1_1.length ≤ c1_1) (h : interchangeref1_Plus.f k a0_0 l0_1 a1_0 l1_1 = some (r1, r2)) :
  Calls Tryd.prog 17 #[.agg #[.bool a0_0, .slice A0_1 l0_1.length c0_1], .agg #[.bool a1_0, .slice A1_1 l1_1.length c1_1]] w fun e w' => ∃ v1_ : Value, e = .returned (.agg #[.bool r1, v1_]) ∧ Kd.V (Kd.int .i64) 3 w' w.heap.size (fun k_ => (w.heap.size ≤ k_)) v1_ r2 ∧ Below w.heap.size w w' := by
 unfold interchangeref1_Plus.f at h
 split at h
 ·obtain ⟨t, _, h⟩ := Option.bind_eq_some_iff.mp h
  split at h
  ·exact interchangeref1_Plus_th.calls k a0_0 A0_1 c0_1 l0_1 a1_0 A1_1 c1_1 l1_1 r1 r2 w hr0_1 hc0_1 hr1_1 hc1_1 h
  ·exact interchangeref1_Plus_fo.calls k a0_0 A0_1 c0_1 l0_1 a1_0 A1_1 c1_1 l1_1 r1 r2 w hr0_1 hc0_1 hr1_1 hc1_1 h
 ·exact interchangeref1_Plus_fo.calls k a0_0 A0_1 c0_1 l0_1 a1_0 A1_1 c1_1 l1_1 r1 r2 w hr0_1 hc0_1 hr1_1 hc1_1 h

end Go.Proofs.YtaihfoihlbileaaDoor.R4
