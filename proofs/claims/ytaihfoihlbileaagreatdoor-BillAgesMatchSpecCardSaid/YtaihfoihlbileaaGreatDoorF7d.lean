import Derived.Test.YtaihfoihlbileaaGreatDoorF7c
set_option maxHeartbeats 8000000
set_option maxRecDepth 1000000
set_option linter.unusedVariables false
set_option linter.unusedSimpArgs false
set_option linter.unusedSectionVars false
namespace Go.Proofs.YtaihfoihlbileaaGreatDoor.R7
open Go.RowKit Go.Proofs.YtaihfoihlbileaaGreatDoorW.PrintWords Go.Proofs.YtaihfoihlbileaaGreatDoorW.PrintLast Go.Proofs.YtaihfoihlbileaaGreatDoorW.PrintMore
attribute [local go_sem] vZ vY vT yZ xH xG vz vX   
mutual
def zw.l0 : Nat → Int → Int → Int → Bool → List Int → Bool → List Int → Bool → List Int → Option (Bool × List Int)
 | 0, _, _, _, _, _, _, _, _, _ => none
 | k + 1, x6, x31, x32, x272000, x272001, x273000, x273001, x276000, x276001 => if x32 < x31 then (if 0 ≤ x32 then (if x32 < (x272001.length : Int) then ((qw.f x273001 x32).bind fun t277 => (if (wrap64 ((wrap64 ((rd x272001 x32) - t277)) - x6)) < 0 then (if x276001.length < 17592186044416 then (zw.l0 k 1 x31 (wrap64 (x32 + 1)) x272000 x272001 x273000 x273001 x276000 (x276001 ++ [wrap64 ((wrap64 ((wrap64 ((rd x272001 x32) - t277)) - x6)) + 1000000)])) else (none)) else (if x276001.length < 17592186044416 then (zw.l0 k 0 x31 (wrap64 (x32 + 1)) x272000 x272001 x273000 x273001 x276000 (x276001 ++ [wrap64 ((wrap64 ((rd x272001 x32) - t277)) - x6)])) else (none)))) else (none)) else (none)) else ((zM.f k x276000 x276001).bind fun bt284 => (some (bt284.1, bt284.2)))
def zw.l1 : Nat → Int → Int → Int → Bool → List Int → Bool → List Int → Bool → List Int → Option (Bool × List Int)
 | 0, _, _, _, _, _, _, _, _, _ => none
 | k + 1, x10, x70, x71, x272000, x272001, x273000, x273001, x289000, x289001 => if x71 < x70 then ((qw.f x272001 x71).bind fun t289 => ((qw.f x273001 x71).bind fun t290 => (if x289001.length < 17592186044416 then (zw.l1 k (wrap64 (Int.tdiv (wrap64 ((wrap64 (t289 + t290)) + x10)) 1000000)) x70 (wrap64 (x71 + 1)) x272000 x272001 x273000 x273001 x289000 (x289001 ++ [Int.tmod (wrap64 ((wrap64 (t289 + t290)) + x10)) 1000000])) else (none)))) else ((zM.f k x289000 x289001).bind fun bt294 => (some (bt294.1, bt294.2)))
end
def zw.f (k : Nat) (a0_0 : Bool) (l0_1 : List Int) (a1_0 : Bool) (l1_1 : List Int) : Option (Bool × List Int) := if (!(a0_0 == a1_0)) = true then ((qz.f k l0_1 l1_1).bind fun t274 => (if t274 < 0 then (none) else (zw.l0 k 0 (l0_1.length : Int) 0 a0_0 l0_1 a1_0 l1_1 a0_0 ([] : List Int)))) else (if (l0_1.length : Int) < (l1_1.length : Int) then (zw.l1 k 0 (wrap64 ((l1_1.length : Int) + 1)) 0 a0_0 l0_1 a1_0 l1_1 a0_0 ([] : List Int)) else (zw.l1 k 0 (wrap64 ((l0_1.length : Int) + 1)) 0 a0_0 l0_1 a1_0 l1_1 a0_0 ([] : List Int)))
def zw.T9 : Bool × List (List Nat × List Nat) := (true, [([], []), ([0], [0]), ([], []), ([1, 2], [1, 2]), ([3], [3]), ([], []), ([5], [5]), ([], []), ([6, 7], [6, 7]), ([4, 8], [4, 8]), ([], []), ([9, 10], [9, 10]), ([11, 8, 0, 1, 2, 3, 4, 5, 6, 7, 8, 9, 10, 11], [11])])
def zw.B9 : List Nat := [0, 1, 0, 7, 15, 0, 32, 0, 224, 511, 0, 2047, 4095]
theorem zw.tab9 : rtab .any (opsOf Tryz.f101 9) = zw.T9 := by kernel_rfl
theorem zw.qQh : yB zw.T9.2 zw.B9 = true := by kernel_rfl
def zw.T21 : Bool × List (List Nat × List Nat) := (true, [([], []), ([0], [0]), ([], []), ([1, 2], [1, 2]), ([], []), ([4], [4]), ([], []), ([5, 6, 3], [5, 6]), ([3, 7], [3, 7]), ([], []), ([8, 9], [8, 9]), ([10, 7, 0, 1, 2, 3, 4, 5, 6, 7, 8, 9, 10], [10])])
def zw.B21 : List Nat := [0, 1, 0, 7, 0, 16, 0, 127, 255, 0, 1023, 2047]
theorem zw.tab21 : rtab .any (opsOf Tryz.f101 21) = zw.T21 := by kernel_rfl
theorem zw.bits21 : yB zw.T21.2 zw.B21 = true := by kernel_rfl
theorem zw.calls (k : Nat) (a0_0 : Bool) (A0_1 : Option Addr) (c0_1 : Nat) (l0_1 : List Int) (a1_0 : Bool) (A1_1 : Option Addr) (c1_1 : Nat) (l1_1 : List Int) (r1 : Bool) (r2 : List Int) (w : World) (hr0_1 : Kd.C (Kd.int .i64) w A0_1 l0_1.length l0_1) (hc0_1 : l0_1.length ≤ c0_1) (hr1_1 : Kd.C (Kd.int .i64) w A1_1 l1_1.length l1_1) (hc1_1 : l1_1.length ≤ c1_1) (h : zw.f k a0_0 l0_1 a1_0 l1_1 = some (r1, r2)) :
  Calls Tryz.prog 101 #[.agg #[.bool a0_0, .slice A0_1 l0_1.length c0_1], .agg #[.bool a1_0, .slice A1_1 l1_1.length c1_1]] w fun e w' => ∃ v1_ : Value, e = .returned (.agg #[.bool r1, v1_]) ∧ Kd.V (Kd.int .i64) 3 w' w.heap.size (fun k_ => (w.heap.size ≤ k_)) v1_ r2 ∧ Below w.heap.size w w' := by
 have hu121 := Tryz.underlying121
 have HR0_1 := zQ.mk hr0_1
 have HC0_1 := zQ.mk hc0_1
 clear hr0_1 hc0_1
 have HR1_1 := zQ.mk hr1_1
 have HC1_1 := zQ.mk hc1_1
 clear hr1_1 hc1_1
 have HB := zQ.mk (Below.refl w.heap.size w)
 have H := h
 unfold zw.f at H
 clear h
 by_cases c3 : (!(a0_0 == a1_0)) = true
 ·rw [if_pos c3] at H
  have c3b0 : (!(a0_0 == a1_0)) = true := c3
  clear c3
  replace H := Option.bind_eq_some_iff.mp H
  obtain ⟨t274, A40, H⟩ := H
  try dsimp only at H
  have A4 := zQ.mk A40
  clear A40
  by_cases c5 : t274 < 0
  ·rw [if_pos c5] at H
   exact absurd H (by simp)
  ·rw [if_neg c5] at H
   have c5b0 : decide (t274 < 0) = false := decide_eq_false c5
   clear c5
   have H' := zQ.mk H
   clear H
   go_enter Tryz.func101, Tryz.ntmps101
   go_wp2_with (first | ((with_reducible refine gD 2 rfl ?_); refine bx w 2 #[.bool a0_0, .slice A0_1 l0_1.length c0_1] 121 ?_; intro gb271 hg w6 hb BK271 GW271 GE271; clear HB; intro HB; clear hb hg) | ((with_reducible refine gD 3 rfl ?_); refine bx w 3 #[.bool a1_0, .slice A1_1 l1_1.length c1_1] 121 ?_; intro gb272 hg w7 hb BK272 GW272 GE272; clear HB; intro HB; have NB271_272 := nbl BK271 hg; have NB272_271 := nbr BK271 hg; replace BK271 := bb BK271 hb; clear hb hg) | ((with_reducible refine gD 4 rfl ?_); refine bx w 4 #[.bool false, .slice none 0 0] 121 ?_; intro gb273 hg w8 hb BK273 GW273 GE273; clear HB; intro HB; have NB271_273 := nbl BK271 hg; have NB273_271 := nbr BK271 hg; replace BK271 := bb BK271 hb; have NB272_273 := nbl BK272 hg; have NB273_272 := nbr BK272 hg; replace BK272 := bb BK272 hb; clear hb hg; have hnb9 := NB271_272.out; have hnc9 := NB272_271.out; have hnb10 := NB271_273.out; have hnc10 := NB273_271.out; obtain ⟨hcz11_0, hcz11_1, hfz11_0, hfz11_1⟩ := cz2 BK271; have hnb12 := NB272_273.out; have hnc12 := NB273_272.out; obtain ⟨hcz13_0, hcz13_1, hfz13_0, hfz13_1⟩ := cz2 BK272) | ((with_reducible refine gC 111 rfl ?_); refine gl_ 22 Tryz.func111 #[.slice A0_1 l0_1.length c0_1, .slice A1_1 l1_1.length c1_1] ?_; (with_reducible refine (qz.calls k _ _ l0_1 _ _ l1_1 t274 _ (zc HR0_1) HC0_1.out (zc HR1_1) HC1_1.out A4.out).mono ?_); rintro e w14 ⟨rfl, hb⟩; refine ⟨_, rfl, ?_⟩; replace BK271 := bb BK271 hb; replace BK272 := bb BK272 hb; replace BK273 := bb BK273 hb; replace HB := hs w hb; (try clear hb); obtain ⟨hcz15_0, hcz15_1, hfz15_0, hfz15_1⟩ := cz2 BK271) | ((with_reducible refine gD 5 rfl ?_); refine bx w 5 #[.bool false, .slice none 0 0] 121 ?_; intro gb275 hg w16 hb BK275 GW275 GE275; clear HB; intro HB; have NB271_275 := nbl BK271 hg; have NB275_271 := nbr BK271 hg; replace BK271 := bb BK271 hb; have NB272_275 := nbl BK272 hg; have NB275_272 := nbr BK272 hg; replace BK272 := bb BK272 hb; have NB273_275 := nbl BK273 hg; have NB275_273 := nbr BK273 hg; replace BK273 := bb BK273 hb; clear hb hg; have hnb17 := NB275_271.out; have hnc17 := NB271_275.out; have hnb18 := NB275_272.out; have hnc18 := NB272_275.out; have hnb19 := NB275_273.out; have hnc19 := NB273_275.out; obtain ⟨hcz20_0, hcz20_1, hfz20_0, hfz20_1⟩ := cz2 BK275; obtain ⟨hcz21_0, hcz21_1, hfz21_0, hfz21_1⟩ := cz2 BK271))
   try simp only [sq]
   go_loopg [6, 32] k (fun kq v6 v32 w' => ∃ (x6_1 : Int) (x32_1 : Int) (x276001_1 : List Int) (u276001 : Value), v6 = .int .i64 x6_1 ∧ v32 = .int .i64 x32_1 ∧ zQ (zw.l0 kq x6_1 (l0_1.length : Int) x32_1 a0_0 l0_1 a1_0 l1_1 a0_0 x276001_1 = some (r1, r2)) ∧ zQ (kq ≤ k) ∧ zQ (Kd.R (Kd.int .i64) 3 w' w.heap.size (fun k_ => (w.heap.size ≤ k_)) u276001 x276001_1) ∧ zQ (w'.heap[gb271]? = some (.cells #[.bool a0_0, (.slice A0_1 l0_1.length c0_1)] 121 (0, 0))) ∧ zQ (w'.heap[gb272]? = some (.cells #[.bool a1_0, (.slice A1_1 l1_1.length c1_1)] 121 (0, 0))) ∧ zQ (w'.heap[gb273]? = some (.cells #[.bool false, (.slice none 0 0)] 121 (0, 0))) ∧ zQ (w'.heap[gb275]? = some (.cells #[.bool a0_0, u276001] 121 (0, 0))) ∧ zQ (Below w.heap.size w w'))
   case atStart => exact ⟨(0), (0), (([] : List Int)), (.slice none 0 0), ar, ar, H', ⟨Nat.le_refl _⟩, ⟨by first | exact Kd.kN _ _ _ _ _ | exact Kd.N_nil _ _ _ _ _ | exact Kd.qKb _ _ _ _ _ | exact Kd.Q_nil _ _ _ _ _ | exact Kd.S_nil _ _ _ _ _⟩, ⟨by (with_reducible repeat (first | refine zJ ?_ _ | refine zK ?_ | refine zZ ?_ _)); refine zF ?_ NB271_275.out _; (with_reducible repeat (first | refine zJ ?_ _ | refine zK ?_ | refine zZ ?_ _)); refine zF ?_ NB271_275.out _; exact zk BK271⟩, ⟨by (with_reducible repeat (first | refine zJ ?_ _ | refine zK ?_ | refine zZ ?_ _)); refine zF ?_ NB272_275.out _; (with_reducible repeat (first | refine zJ ?_ _ | refine zK ?_ | refine zZ ?_ _)); refine zF ?_ NB272_275.out _; exact zk BK272⟩, ⟨by (with_reducible repeat (first | refine zJ ?_ _ | refine zK ?_ | refine zZ ?_ _)); refine zF ?_ NB273_275.out _; (with_reducible repeat (first | refine zJ ?_ _ | refine zK ?_ | refine zZ ?_ _)); refine zF ?_ NB273_275.out _; exact zk BK273⟩, ⟨by (with_reducible repeat (first | refine zJ ?_ _ | refine zK ?_ | refine zZ ?_ _)); refine zL (cs := #[.bool a0_0, .slice none 0 0]) ?_ 1 _ rfl; (with_reducible repeat (first | refine zJ ?_ _ | refine zK ?_ | refine zZ ?_ _)); refine zL (cs := #[.bool false, .slice none 0 0]) ?_ 0 _ rfl; exact zk BK275⟩, ⟨(zb w)⟩⟩
   case round =>
    clear H'
    try clear c1
    try clear p2
    try clear c3
    try clear c3b0
    try clear c5
    try clear c5b0
    try clear p6
    try clear c9
    try clear c10
    try clear c11
    try clear c12
    try clear c17
    try clear c18
    try clear c19
    try clear hcz11_0 hcz11_1
    try clear hcz13_0 hcz13_1
    try clear hcz15_0 hcz15_1
    try clear hcz20_0 hcz20_1
    try clear hcz21_0 hcz21_1
    try clear hfz11_0 hfz11_1
    try clear hfz13_0 hfz13_1
    try clear hfz15_0 hfz15_1
    try clear hfz20_0 hfz20_1
    try clear hfz21_0 hfz21_1
    obtain ⟨x6_1, x32_1, x276001_1, u276001, rfl, rfl, HA, HK1, HO_276001, BK271, BK272, BK273, BK275, HB⟩ := hrel
    cases gk with
    | zero => exact absurd HA.out (by simp [zw.l0])
    | succ k1 =>
     have H := HA.out
     clear HA
     simp only [zw.l0] at H
     by_cases c22 : x32_1 < (l0_1.length : Int)
     ·rw [if_pos c22] at H
      have c22b0 : decide (x32_1 < (l0_1.length : Int)) = true := decide_eq_true c22
      clear c22
      by_cases c23 : 0 ≤ x32_1
      ·rw [if_pos c23] at H
       have c23b0 : decide (0 ≤ x32_1) = true := decide_eq_true c23
       clear c23
       by_cases c24 : x32_1 < (l0_1.length : Int)
       ·rw [if_pos c24] at H
        have c24b0 : decide (x32_1 < (l0_1.length : Int)) = true := decide_eq_true c24
        clear c24
        replace H := Option.bind_eq_some_iff.mp H
        obtain ⟨t277, A250, H⟩ := H
        try dsimp only at H
        have A25 := zQ.mk A250
        clear A250
        by_cases c26 : (wrap64 ((wrap64 ((rd l0_1 x32_1) - t277)) - x6_1)) < 0
        ·rw [if_pos c26] at H
         have c26b0 : decide ((wrap64 ((wrap64 ((rd l0_1 x32_1) - t277)) - x6_1)) < 0) = true := decide_eq_true c26
         clear c26
         by_cases c27 : x276001_1.length < 17592186044416
         ·rw [if_pos c27] at H
          have LMc27 := zQ.mk c27
          clear c27
          obtain ⟨y278, hy278⟩ : ∃ y_ : List Int, y_ = (x276001_1 ++ [wrap64 ((wrap64 ((wrap64 ((rd l0_1 x32_1) - t277)) - x6_1)) + 1000000)]) := ⟨_, rfl⟩
          replace H : (zw.l0 k1 1 (l0_1.length : Int) (wrap64 (x32_1 + 1)) a0_0 l0_1 a1_0 l1_1 a0_0 y278) = some (r1, r2) := by first | (rw [hy278]; with_reducible exact H) | (have H2_ := (Option.bind_some _ _).symm.trans H; rw [hy278]; with_reducible exact H2_) | (have H2_ := (Option.bind_some _ _).symm.trans H; with_reducible exact H2_) | with_reducible exact H | (rw [hy278]; exact H) | exact H
          have Ny278 := zQ.mk hy278
          clear hy278
          have H' := zQ.mk H
          clear H
          try go_wp2
          have n0_ := zQ.mk (Kd.xw HO_276001.out)
          have n1_ := zQ.mk (zK BK271.out)
          have n2_ := zQ.mk (zK BK272.out)
          have n3_ := zQ.mk (zK BK273.out)
          have n4_ := zQ.mk (zK BK275.out)
          have n5_ := zQ.mk (qD HB.out)
          clear HO_276001
          clear BK271
          clear BK272
          clear BK273
          clear BK275
          clear HB
          have HO_276001 := n0_
          have BK271 := n1_
          have BK272 := n2_
          have BK273 := n3_
          have BK275 := n4_
          have HB := n5_
          clear n0_ n1_ n2_ n3_ n4_ n5_
          have p276 : 0 ≤ (x32_1 : Int) := of_decide_eq_true (by assumption)
          have q276 : x32_1 < (l0_1.length : Int) := of_decide_eq_true (by assumption)
          obtain ⟨ad276, e276, hx276_0⟩ := Kd.jy HR0_1.out x32_1 p276 q276
          have hw276_0 := hx276_0
          cases e276
          replace hx276_0 := hz HB hx276_0
          replace p276 := eq_true p276
          replace q276 := eq_true q276
          refine uH (n := 13) (S := fun w' => w'.cell? ⟨gb271, 0, none⟩ = some (.bool a0_0) ∧ w'.cell? ⟨gb271, 1, none⟩ = some (.slice (some ad276) l0_1.length c0_1) ∧ w'.cell? ⟨gb272, 0, none⟩ = some (.bool a1_0) ∧ w'.cell? ⟨gb272, 1, none⟩ = some (.slice A1_1 l1_1.length c1_1) ∧ w'.cell? (ad276.add (x32_1).toNat) = some (.int .i64 (rd l0_1 x32_1))) (ds := []) (bm 13 0) (by kernel_rfl) rfl rfl ⟨(zx BK271.out 0).trans rfl, (zx BK271.out 1).trans rfl, (zx BK272.out 0).trans rfl, (zx BK272.out 1).trans rfl, ((HB.out.cell (World.block_lt_of_cell? w _ hw276_0)).trans hw276_0)⟩ (fun hHeld => ?_); refine vF zw.tab9 zw.qQh (fun HT_ HW_ => ?_)
          generalize wr.drew = w28 at HO_276001 BK271 BK272 BK273 BK275 HB hx276_0 hHeld ⊢
          refine pu 0 35 (bm 13 1) HT_ ?_
          refine pu 2 37 (bm 13 5) HT_ ?_
          refine pu 5 40 (bm 13 37) HT_ ?_
          refine pu 7 42 (bm 13 165) HT_ ?_
          refine pu 10 45 (bm 13 1189) HT_ ?_
          refine ta5 1 36 (bm 13 1191) HT_ HW_ hHeld ?_
          refine pu 3 38 (bm 13 1199) HT_ ?_
          refine ta5 4 39 (bm 13 1215) HT_ HW_ hHeld ?_
          refine ta5 6 41 (bm 13 1279) HT_ HW_ hHeld ?_
          refine one_ (i := 8) (N := some 43) (bm 13 1535) rfl rfl (yN HT_.out (by kernel_rfl)) (by decide) (fun K hK => ?_)
          refine gs Tryz.func112 #[.slice A1_1 l1_1.length c1_1, .int .i64 x32_1] ?_
          with_reducible refine (qw.calls _ _ l1_1 x32_1 t277 _ (zc HR1_1) HC1_1.out A25.out).mono ?_
          rintro e w29 ⟨rfl, hb⟩
          refine ⟨_, rfl, ?_⟩
          have n0_ := rb HO_276001 hb
          have n1_ := bb BK271 hb
          have n2_ := bb BK272 hb
          have n3_ := bb BK273 hb
          have n4_ := bb BK275 hb
          have n5_ := hs w hb
          clear HO_276001
          clear BK271
          clear BK272
          clear BK273
          clear BK275
          clear HB
          have HO_276001 := n0_
          have BK271 := n1_
          have BK272 := n2_
          have BK273 := n3_
          have BK275 := n4_
          have HB := n5_
          clear n0_ n1_ n2_ n3_ n4_ n5_
          (try clear hb)
          (try clear hb2)
          (try clear hk)
          (try clear hi)
          refine hK.out _ _ ⟨(zx BK271.out 0).trans rfl, (zx BK271.out 1).trans rfl, (zx BK272.out 0).trans rfl, (zx BK272.out 1).trans rfl, ((HB.out.cell (World.block_lt_of_cell? w _ hw276_0)).trans hw276_0)⟩ (fun hHeld => ?_)
          clear hK K
          refine uG (a' := ?_) ?_ ?_
          rotate_left
          ·show Act.put _ (some 43) _ = _
           simp only [sq, jw, vL]
           rfl
          refine pu 9 44 (bm 13 2047) HT_ ?_
          refine pu 11 46 (bm 13 4095) HT_ ?_
          refine pu 12 8 (bm 13 8191) HT_ ?_
          refine zQh (uq HT_.out (by kernel_rfl)) ?_
          have hnb30 := NB275_271.out
          have hnc30 := NB271_275.out
          have hnb31 := NB275_272.out
          have hnc31 := NB272_275.out
          have hnb32 := NB275_273.out
          have hnc32 := NB273_275.out
          obtain ⟨hcz33_0, hcz33_1, hfz33_0, hfz33_1⟩ := cz2 BK275
          try go_wp2_with (first | ((with_reducible refine jR (b := .append) (xs := #[.tmp 52, .tmp 54]) rfl ?_); at_builtin; refine Kd.vJ (Kd.int .i64) (w0 := w) w.heap.size rfl (.tmp 52) (.tmp 54) 39 3 (.int .i64 0) 8 rfl Tryz.underlying39 info3 rfl (by decide) (by omega) u276001 x276001_1 (wrap64 ((wrap64 ((wrap64 ((rd l0_1 x32_1) - t277)) - x6_1)) + 1000000)) [.int .i64 (wrap64 ((wrap64 ((wrap64 ((rd l0_1 x32_1) - t277)) - x6_1)) + 1000000))] (fun k_ => (w.heap.size ≤ k_)) (fun _ => False) rfl rfl ?aP (fun _ hk => hk.elim) ?aF ?aO ?aB ?aS ?aL ?_; (case aP => exact rfl); (case aB => exact (zb w)); (case aF => exact (fun k_ hk => (Nat.le_trans (zy (zb w)) hk))); (case aO => exact (zo HO_276001)); (case aS => exact (zy (zb w))); (case aL => have := LMc27.out; omega); intro v279 w34 ho hb hg hat; rw [← Ny278.out] at ho; replace BK271 := zQ.mk (qR (g := gb271) (o := .cells #[.bool a0_0, .slice (some ad276) l0_1.length c0_1] 121 (0, 0)) (zk BK271) hg (Kd.R_ne HO_276001.out BK271.out (by decide))); replace BK272 := zQ.mk (qR (g := gb272) (o := .cells #[.bool a1_0, .slice A1_1 l1_1.length c1_1] 121 (0, 0)) (zk BK272) hg (Kd.R_ne HO_276001.out BK272.out (by decide))); replace BK273 := zQ.mk (qR (g := gb273) (o := .cells #[.bool false, .slice none 0 0] 121 (0, 0)) (zk BK273) hg (Kd.R_ne HO_276001.out BK273.out (by decide))); replace BK275 := zQ.mk (qR (g := gb275) (o := .cells #[.bool a0_0, u276001] 121 (0, 0)) (zk BK275) hg (Kd.R_ne HO_276001.out BK275.out (by decide))); replace HB := zQ.mk (hb); have HO280 := zQ.mk (ho); clear HO_276001; clear ho hb hg hat; obtain ⟨Ao35, co35, eo35⟩ := Kd.xx HO280.out; subst eo35; obtain ⟨hcz36_0, hcz36_1, hfz36_0, hfz36_1⟩ := cz2 BK275))
          go_roundg k1
          case measure => have := HK1.out; omega
          case rel => exact ⟨(1), (wrap64 (x32_1 + 1)), (y278), (.slice Ao35 y278.length co35), ar, ar, H', ⟨by have := HK1.out; omega⟩, ⟨by (with_reducible repeat (first | apply Kd.xU | apply Kd.xS | apply Kd.xw)); exact Kd.vw (Kd.zZd (p := ⟨gb275, 1, none⟩) (Kd.zB HO280.out BK275.out (by decide)) (fun _ hk => hk.2) (.slice Ao35 y278.length co35)) (fun _ hk => hk.1)⟩, ⟨by (with_reducible repeat (first | refine zJ ?_ _ | refine zK ?_ | refine zZ ?_ _)); refine zF ?_ NB271_275.out _; exact zk BK271⟩, ⟨by (with_reducible repeat (first | refine zJ ?_ _ | refine zK ?_ | refine zZ ?_ _)); refine zF ?_ NB272_275.out _; exact zk BK272⟩, ⟨by (with_reducible repeat (first | refine zJ ?_ _ | refine zK ?_ | refine zZ ?_ _)); refine zF ?_ NB273_275.out _; exact zk BK273⟩, ⟨by (with_reducible repeat (first | refine zJ ?_ _ | refine zK ?_ | refine zZ ?_ _)); refine zL (cs := #[.bool a0_0, u276001]) ?_ 1 _ rfl; exact zk BK275⟩, ⟨(zb w)⟩⟩
         ·rw [if_neg c27] at H
          exact absurd H (by simp)
        ·rw [if_neg c26] at H
         have c26b0 : decide ((wrap64 ((wrap64 ((rd l0_1 x32_1) - t277)) - x6_1)) < 0) = false := decide_eq_false c26
         clear c26
         by_cases c37 : x276001_1.length < 17592186044416
         ·rw [if_pos c37] at H
          have LMc37 := zQ.mk c37
          clear c37
          obtain ⟨y281, hy281⟩ : ∃ y_ : List Int, y_ = (x276001_1 ++ [wrap64 ((wrap64 ((rd l0_1 x32_1) - t277)) - x6_1)]) := ⟨_, rfl⟩
          replace H : (zw.l0 k1 0 (l0_1.length : Int) (wrap64 (x32_1 + 1)) a0_0 l0_1 a1_0 l1_1 a0_0 y281) = some (r1, r2) := by first | (rw [hy281]; with_reducible exact H) | (have H2_ := (Option.bind_some _ _).symm.trans H; rw [hy281]; with_reducible exact H2_) | (have H2_ := (Option.bind_some _ _).symm.trans H; with_reducible exact H2_) | with_reducible exact H | (rw [hy281]; exact H) | exact H
          have Ny281 := zQ.mk hy281
          clear hy281
          have H' := zQ.mk H
          clear H
          try go_wp2
          have n0_ := zQ.mk (Kd.xw HO_276001.out)
          have n1_ := zQ.mk (zK BK271.out)
          have n2_ := zQ.mk (zK BK272.out)
          have n3_ := zQ.mk (zK BK273.out)
          have n4_ := zQ.mk (zK BK275.out)
          have n5_ := zQ.mk (qD HB.out)
          clear HO_276001
          clear BK271
          clear BK272
          clear BK273
          clear BK275
          clear HB
          have HO_276001 := n0_
          have BK271 := n1_
          have BK272 := n2_
          have BK273 := n3_
          have BK275 := n4_
          have HB := n5_
          clear n0_ n1_ n2_ n3_ n4_ n5_
          have p276 : 0 ≤ (x32_1 : Int) := of_decide_eq_true (by assumption)
          have q276 : x32_1 < (l0_1.length : Int) := of_decide_eq_true (by assumption)
          obtain ⟨ad276, e276, hx276_0⟩ := Kd.jy HR0_1.out x32_1 p276 q276
          have hw276_0 := hx276_0
          cases e276
          replace hx276_0 := hz HB hx276_0
          replace p276 := eq_true p276
          replace q276 := eq_true q276
          refine uH (n := 13) (S := fun w' => w'.cell? ⟨gb271, 0, none⟩ = some (.bool a0_0) ∧ w'.cell? ⟨gb271, 1, none⟩ = some (.slice (some ad276) l0_1.length c0_1) ∧ w'.cell? ⟨gb272, 0, none⟩ = some (.bool a1_0) ∧ w'.cell? ⟨gb272, 1, none⟩ = some (.slice A1_1 l1_1.length c1_1) ∧ w'.cell? (ad276.add (x32_1).toNat) = some (.int .i64 (rd l0_1 x32_1))) (ds := []) (bm 13 0) (by kernel_rfl) rfl rfl ⟨(zx BK271.out 0).trans rfl, (zx BK271.out 1).trans rfl, (zx BK272.out 0).trans rfl, (zx BK272.out 1).trans rfl, ((HB.out.cell (World.block_lt_of_cell? w _ hw276_0)).trans hw276_0)⟩ (fun hHeld => ?_); refine vF zw.tab9 zw.qQh (fun HT_ HW_ => ?_)
          generalize wr.drew = w38 at HO_276001 BK271 BK272 BK273 BK275 HB hx276_0 hHeld ⊢
          refine pu 0 35 (bm 13 1) HT_ ?_
          refine pu 2 37 (bm 13 5) HT_ ?_
          refine pu 5 40 (bm 13 37) HT_ ?_
          refine pu 7 42 (bm 13 165) HT_ ?_
          refine pu 10 45 (bm 13 1189) HT_ ?_
          refine ta5 1 36 (bm 13 1191) HT_ HW_ hHeld ?_
          refine pu 3 38 (bm 13 1199) HT_ ?_
          refine ta5 4 39 (bm 13 1215) HT_ HW_ hHeld ?_
          refine ta5 6 41 (bm 13 1279) HT_ HW_ hHeld ?_
          refine one_ (i := 8) (N := some 43) (bm 13 1535) rfl rfl (yN HT_.out (by kernel_rfl)) (by decide) (fun K hK => ?_)
          refine gs Tryz.func112 #[.slice A1_1 l1_1.length c1_1, .int .i64 x32_1] ?_
          with_reducible refine (qw.calls _ _ l1_1 x32_1 t277 _ (zc HR1_1) HC1_1.out A25.out).mono ?_
          rintro e w39 ⟨rfl, hb⟩
          refine ⟨_, rfl, ?_⟩
          have n0_ := rb HO_276001 hb
          have n1_ := bb BK271 hb
          have n2_ := bb BK272 hb
          have n3_ := bb BK273 hb
          have n4_ := bb BK275 hb
          have n5_ := hs w hb
          clear HO_276001
          clear BK271
          clear BK272
          clear BK273
          clear BK275
          clear HB
          have HO_276001 := n0_
          have BK271 := n1_
          have BK272 := n2_
          have BK273 := n3_
          have BK275 := n4_
          have HB := n5_
          clear n0_ n1_ n2_ n3_ n4_ n5_
          (try clear hb)
          (try clear hb2)
          (try clear hk)
          (try clear hi)
          refine hK.out _ _ ⟨(zx BK271.out 0).trans rfl, (zx BK271.out 1).trans rfl, (zx BK272.out 0).trans rfl, (zx BK272.out 1).trans rfl, ((HB.out.cell (World.block_lt_of_cell? w _ hw276_0)).trans hw276_0)⟩ (fun hHeld => ?_)
          clear hK K
          refine uG (a' := ?_) ?_ ?_
          rotate_left
          ·show Act.put _ (some 43) _ = _
           simp only [sq, jw, vL]
           rfl
          refine pu 9 44 (bm 13 2047) HT_ ?_
          refine pu 11 46 (bm 13 4095) HT_ ?_
          refine pu 12 8 (bm 13 8191) HT_ ?_
          refine zQh (uq HT_.out (by kernel_rfl)) ?_
          have hnb40 := NB275_271.out
          have hnc40 := NB271_275.out
          have hnb41 := NB275_272.out
          have hnc41 := NB272_275.out
          have hnb42 := NB275_273.out
          have hnc42 := NB273_275.out
          obtain ⟨hcz43_0, hcz43_1, hfz43_0, hfz43_1⟩ := cz2 BK275
          try go_wp2_with (first | ((with_reducible refine jR (b := .append) (xs := #[.tmp 52, .tmp 54]) rfl ?_); at_builtin; refine Kd.vJ (Kd.int .i64) (w0 := w) w.heap.size rfl (.tmp 52) (.tmp 54) 39 3 (.int .i64 0) 8 rfl Tryz.underlying39 info3 rfl (by decide) (by omega) u276001 x276001_1 (wrap64 ((wrap64 ((rd l0_1 x32_1) - t277)) - x6_1)) [.int .i64 (wrap64 ((wrap64 ((rd l0_1 x32_1) - t277)) - x6_1))] (fun k_ => (w.heap.size ≤ k_)) (fun _ => False) rfl rfl ?aP (fun _ hk => hk.elim) ?aF ?aO ?aB ?aS ?aL ?_; (case aP => exact rfl); (case aB => exact (zb w)); (case aF => exact (fun k_ hk => (Nat.le_trans (zy (zb w)) hk))); (case aO => exact (zo HO_276001)); (case aS => exact (zy (zb w))); (case aL => have := LMc37.out; omega); intro v282 w44 ho hb hg hat; rw [← Ny281.out] at ho; replace BK271 := zQ.mk (qR (g := gb271) (o := .cells #[.bool a0_0, .slice (some ad276) l0_1.length c0_1] 121 (0, 0)) (zk BK271) hg (Kd.R_ne HO_276001.out BK271.out (by decide))); replace BK272 := zQ.mk (qR (g := gb272) (o := .cells #[.bool a1_0, .slice A1_1 l1_1.length c1_1] 121 (0, 0)) (zk BK272) hg (Kd.R_ne HO_276001.out BK272.out (by decide))); replace BK273 := zQ.mk (qR (g := gb273) (o := .cells #[.bool false, .slice none 0 0] 121 (0, 0)) (zk BK273) hg (Kd.R_ne HO_276001.out BK273.out (by decide))); replace BK275 := zQ.mk (qR (g := gb275) (o := .cells #[.bool a0_0, u276001] 121 (0, 0)) (zk BK275) hg (Kd.R_ne HO_276001.out BK275.out (by decide))); replace HB := zQ.mk (hb); have HO283 := zQ.mk (ho); clear HO_276001; clear ho hb hg hat; obtain ⟨Ao45, co45, eo45⟩ := Kd.xx HO283.out; subst eo45; obtain ⟨hcz46_0, hcz46_1, hfz46_0, hfz46_1⟩ := cz2 BK275))
          go_roundg k1
          case measure => have := HK1.out; omega
          case rel => exact ⟨(0), (wrap64 (x32_1 + 1)), (y281), (.slice Ao45 y281.length co45), ar, ar, H', ⟨by have := HK1.out; omega⟩, ⟨by (with_reducible repeat (first | apply Kd.xU | apply Kd.xS | apply Kd.xw)); exact Kd.vw (Kd.zZd (p := ⟨gb275, 1, none⟩) (Kd.zB HO283.out BK275.out (by decide)) (fun _ hk => hk.2) (.slice Ao45 y281.length co45)) (fun _ hk => hk.1)⟩, ⟨by (with_reducible repeat (first | refine zJ ?_ _ | refine zK ?_ | refine zZ ?_ _)); refine zF ?_ NB271_275.out _; exact zk BK271⟩, ⟨by (with_reducible repeat (first | refine zJ ?_ _ | refine zK ?_ | refine zZ ?_ _)); refine zF ?_ NB272_275.out _; exact zk BK272⟩, ⟨by (with_reducible repeat (first | refine zJ ?_ _ | refine zK ?_ | refine zZ ?_ _)); refine zF ?_ NB273_275.out _; exact zk BK273⟩, ⟨by (with_reducible repeat (first | refine zJ ?_ _ | refine zK ?_ | refine zZ ?_ _)); refine zL (cs := #[.bool a0_0, u276001]) ?_ 1 _ rfl; exact zk BK275⟩, ⟨(zb w)⟩⟩
         ·rw [if_neg c37] at H
          exact absurd H (by simp)
       ·rw [if_neg c24] at H
        exact absurd H (by simp)
      ·rw [if_neg c23] at H
       exact absurd H (by simp)
     ·rw [if_neg c22] at H
      have c22b0 : decide (x32_1 < (l0_1.length : Int)) = false := decide_eq_false c22
      clear c22
      replace H := Option.bind_eq_some_iff.mp H
      obtain ⟨⟨t284, t285⟩, A470, H⟩ := H
      try dsimp only at H
      have A47 := zQ.mk A470
      clear A470
      simp only [Option.some.injEq, Prod.mk.injEq] at H
      obtain ⟨rfl, rfl⟩ := H
      have hnb48 := NB275_271.out
      have hnc48 := NB271_275.out
      have hnb49 := NB275_272.out
      have hnc49 := NB272_275.out
      have hnb50 := NB275_273.out
      have hnc50 := NB273_275.out
      obtain ⟨hcz51_0, hcz51_1, hfz51_0, hfz51_1⟩ := cz2 BK275
      obtain ⟨Ao52, co52, eo52⟩ := Kd.xx HO_276001.out
      subst eo52
      go_wp2_with (first | ((with_reducible refine gC 113 rfl ?_); refine gl_ 59 Tryz.func113 #[.agg #[.bool a0_0, .slice Ao52 x276001_1.length co52]] ?_; (with_reducible refine (zM.calls k1 a0_0 (fun k_ => some k_ = (.slice Ao52 x276001_1.length co52 : Value).ownBlock) _ _ x276001_1 t284 t285 _ ?side1 A47.out).mono ?_); (case side1 => exact Kd.R_V (Kd.uU rfl (Kd.zB (Kd.zB (Kd.zB (Kd.zB (HO_276001.out) BK271.out (by decide)) BK272.out (by decide)) BK273.out (by decide)) BK275.out (by decide)))); rintro e w53 ⟨v286, rfl, ho0, hb⟩; refine ⟨_, rfl, ?_⟩; have HO287 := zQ.mk (Kd.xJ (Kd.zR (ok' := fun k_ => (w.heap.size ≤ k_) ∧ k_ ≠ gb271 ∧ k_ ≠ gb272 ∧ k_ ≠ gb273 ∧ k_ ≠ gb275) ho0 (fun k_ hk_ => ⟨Or.elim hk_ (fun hs_ => ((Kd.zB (Kd.zB (Kd.zB (Kd.zB (HO_276001.out) BK271.out (by decide)) BK272.out (by decide)) BK273.out (by decide)) BK275.out (by decide)).1 k_ hs_.symm).1.1.1.1) (fun hn_ => (Nat.le_trans (zy (zb w)) hn_)), Or.elim hk_ (fun hs_ => ((Kd.zB (Kd.zB (Kd.zB (Kd.zB (HO_276001.out) BK271.out (by decide)) BK272.out (by decide)) BK273.out (by decide)) BK275.out (by decide)).1 k_ hs_.symm).1.1.1.2) (fun hn_ => (Kd.qH (g := gb271) (o := .cells #[.bool a0_0, .slice A0_1 l0_1.length c0_1] 121 (0, 0)) (zk BK271) k_ hn_)), Or.elim hk_ (fun hs_ => ((Kd.zB (Kd.zB (Kd.zB (Kd.zB (HO_276001.out) BK271.out (by decide)) BK272.out (by decide)) BK273.out (by decide)) BK275.out (by decide)).1 k_ hs_.symm).1.1.2) (fun hn_ => (Kd.qH (g := gb272) (o := .cells #[.bool a1_0, .slice A1_1 l1_1.length c1_1] 121 (0, 0)) (zk BK272) k_ hn_)), Or.elim hk_ (fun hs_ => ((Kd.zB (Kd.zB (Kd.zB (Kd.zB (HO_276001.out) BK271.out (by decide)) BK272.out (by decide)) BK273.out (by decide)) BK275.out (by decide)).1 k_ hs_.symm).1.2) (fun hn_ => (Kd.qH (g := gb273) (o := .cells #[.bool false, .slice none 0 0] 121 (0, 0)) (zk BK273) k_ hn_)), Or.elim hk_ (fun hs_ => ((Kd.zB (Kd.zB (Kd.zB (Kd.zB (HO_276001.out) BK271.out (by decide)) BK272.out (by decide)) BK273.out (by decide)) BK275.out (by decide)).1 k_ hs_.symm).2) (fun hn_ => (Kd.qH (g := gb275) (o := .cells #[.bool a0_0, .slice Ao52 x276001_1.length co52] 121 (0, 0)) (zk BK275) k_ hn_))⟩)) (zy (zb w))); replace HO_276001 := rb HO_276001 hb; replace BK271 := bb BK271 hb; replace BK272 := bb BK272 hb; replace BK273 := bb BK273 hb; replace BK275 := bb BK275 hb; replace HB := hs w hb; (try clear hb); (try clear ho0); have hnb54 := NB273_271.out; have hnc54 := NB271_273.out; have hnb55 := NB273_272.out; have hnc55 := NB272_273.out; obtain ⟨hcz56_0, hcz56_1, hfz56_0, hfz56_1⟩ := cz2 BK273; obtain ⟨Ao57, co57, eo57⟩ := Kd.jW HO287.out; subst eo57))
      refine bodyPost_ret (results_cell_row rfl _ _ gb273 121 #[.bool t284, .slice Ao57 t285.length co57] (0, 0) _ rfl (by (with_reducible repeat (first | refine zJ ?_ _ | refine zK ?_ | refine zZ ?_ _)); refine zL (cs := #[.bool t284, .slice none 0 0]) ?_ 1 _ rfl; (with_reducible repeat (first | refine zJ ?_ _ | refine zK ?_ | refine zZ ?_ _)); refine zL (cs := #[.bool false, .slice none 0 0]) ?_ 0 _ rfl; exact zk BK273) Tryz.underlying121 rfl (by kernel_rfl)) rfl ?_
      exact ⟨_, by first | rfl | (simp [zq, zY] <;> rfl) | (simp [*, zq, zY] <;> rfl), by (with_reducible repeat (first | apply Kd.V_alloc | apply Kd.V_drewN | apply Kd.zT)); exact Kd.zR (Kd.qL (p := ⟨gb273, 1, none⟩) (Kd.qL (p := ⟨gb273, 0, none⟩) (Kd.zR HO287.out (fun k_ hk => (⟨hk, hk.2.2.2.1⟩ : _ ∧ k_ ≠ gb273))) (fun _ hk => hk.2) (.bool t284)) (fun _ hk => hk.2) (.slice Ao57 t285.length co57)) (fun _ hk => hk.1.1), (zb w)⟩
 ·rw [if_neg c3] at H
  have c3b0 : (!(a0_0 == a1_0)) = false := by simpa using c3
  clear c3
  by_cases c58 : (l0_1.length : Int) < (l1_1.length : Int)
  ·rw [if_pos c58] at H
   have c58i := eq_true c58
   have c58b0 : decide ((l0_1.length : Int) < (l1_1.length : Int)) = true := decide_eq_true c58
   have c58b1 : decide (l0_1.length < l1_1.length) = true := decide_eq_true (Int.ofNat_lt.mp c58)
   clear c58
   have H' := zQ.mk H
   clear H
   go_enter Tryz.func101, Tryz.ntmps101
   go_wp2_with (first | ((with_reducible refine gD 2 rfl ?_); refine bx w 2 #[.bool a0_0, .slice A0_1 l0_1.length c0_1] 121 ?_; intro gb271 hg w59 hb BK271 GW271 GE271; clear HB; intro HB; clear hb hg) | ((with_reducible refine gD 3 rfl ?_); refine bx w 3 #[.bool a1_0, .slice A1_1 l1_1.length c1_1] 121 ?_; intro gb272 hg w60 hb BK272 GW272 GE272; clear HB; intro HB; have NB271_272 := nbl BK271 hg; have NB272_271 := nbr BK271 hg; replace BK271 := bb BK271 hb; clear hb hg) | ((with_reducible refine gD 4 rfl ?_); refine bx w 4 #[.bool false, .slice none 0 0] 121 ?_; intro gb273 hg w61 hb BK273 GW273 GE273; clear HB; intro HB; have NB271_273 := nbl BK271 hg; have NB273_271 := nbr BK271 hg; replace BK271 := bb BK271 hb; have NB272_273 := nbl BK272 hg; have NB273_272 := nbr BK272 hg; replace BK272 := bb BK272 hb; clear hb hg; have hnb62 := NB271_272.out; have hnc62 := NB272_271.out; have hnb63 := NB271_273.out; have hnc63 := NB273_271.out; obtain ⟨hcz64_0, hcz64_1, hfz64_0, hfz64_1⟩ := cz2 BK271; have hnb65 := NB272_273.out; have hnc65 := NB273_272.out; obtain ⟨hcz66_0, hcz66_1, hfz66_0, hfz66_1⟩ := cz2 BK272) | ((with_reducible refine gD 9 rfl ?_); refine bx w 9 #[.bool false, .slice none 0 0] 121 ?_; intro gb288 hg w67 hb BK288 GW288 GE288; clear HB; intro HB; have NB271_288 := nbl BK271 hg; have NB288_271 := nbr BK271 hg; replace BK271 := bb BK271 hb; have NB272_288 := nbl BK272 hg; have NB288_272 := nbr BK272 hg; replace BK272 := bb BK272 hb; have NB273_288 := nbl BK273 hg; have NB288_273 := nbr BK273 hg; replace BK273 := bb BK273 hb; clear hb hg; have hnb68 := NB288_271.out; have hnc68 := NB271_288.out; have hnb69 := NB288_272.out; have hnc69 := NB272_288.out; have hnb70 := NB288_273.out; have hnc70 := NB273_288.out; obtain ⟨hcz71_0, hcz71_1, hfz71_0, hfz71_1⟩ := cz2 BK288; obtain ⟨hcz72_0, hcz72_1, hfz72_0, hfz72_1⟩ := cz2 BK271; obtain ⟨hcz73_0, hcz73_1, hfz73_0, hfz73_1⟩ := cz2 BK272))
   try simp only [sq]
   go_loopg [10, 71] k (fun kq v10 v71 w' => ∃ (x10_1 : Int) (x71_1 : Int) (x289001_1 : List Int) (u289001 : Value), v10 = .int .i64 x10_1 ∧ v71 = .int .i64 x71_1 ∧ zQ (zw.l1 kq x10_1 (wrap64 ((l1_1.length : Int) + 1)) x71_1 a0_0 l0_1 a1_0 l1_1 a0_0 x289001_1 = some (r1, r2)) ∧ zQ (kq ≤ k) ∧ zQ (Kd.R (Kd.int .i64) 3 w' w.heap.size (fun k_ => (w.heap.size ≤ k_)) u289001 x289001_1) ∧ zQ (w'.heap[gb271]? = some (.cells #[.bool a0_0, (.slice A0_1 l0_1.length c0_1)] 121 (0, 0))) ∧ zQ (w'.heap[gb272]? = some (.cells #[.bool a1_0, (.slice A1_1 l1_1.length c1_1)] 121 (0, 0))) ∧ zQ (w'.heap[gb273]? = some (.cells #[.bool false, (.slice none 0 0)] 121 (0, 0))) ∧ zQ (w'.heap[gb288]? = some (.cells #[.bool a0_0, u289001] 121 (0, 0))) ∧ zQ (Below w.heap.size w w'))
   case atStart => exact ⟨(0), (0), (([] : List Int)), (.slice none 0 0), ar, ar, H', ⟨Nat.le_refl _⟩, ⟨by first | exact Kd.kN _ _ _ _ _ | exact Kd.N_nil _ _ _ _ _ | exact Kd.qKb _ _ _ _ _ | exact Kd.Q_nil _ _ _ _ _ | exact Kd.S_nil _ _ _ _ _⟩, ⟨by (with_reducible repeat (first | refine zJ ?_ _ | refine zK ?_ | refine zZ ?_ _)); refine zF ?_ NB271_288.out _; (with_reducible repeat (first | refine zJ ?_ _ | refine zK ?_ | refine zZ ?_ _)); refine zF ?_ NB271_288.out _; exact zk BK271⟩, ⟨by (with_reducible repeat (first | refine zJ ?_ _ | refine zK ?_ | refine zZ ?_ _)); refine zF ?_ NB272_288.out _; (with_reducible repeat (first | refine zJ ?_ _ | refine zK ?_ | refine zZ ?_ _)); refine zF ?_ NB272_288.out _; exact zk BK272⟩, ⟨by (with_reducible repeat (first | refine zJ ?_ _ | refine zK ?_ | refine zZ ?_ _)); refine zF ?_ NB273_288.out _; (with_reducible repeat (first | refine zJ ?_ _ | refine zK ?_ | refine zZ ?_ _)); refine zF ?_ NB273_288.out _; exact zk BK273⟩, ⟨by (with_reducible repeat (first | refine zJ ?_ _ | refine zK ?_ | refine zZ ?_ _)); refine zL (cs := #[.bool a0_0, .slice none 0 0]) ?_ 1 _ rfl; (with_reducible repeat (first | refine zJ ?_ _ | refine zK ?_ | refine zZ ?_ _)); refine zL (cs := #[.bool false, .slice none 0 0]) ?_ 0 _ rfl; exact zk BK288⟩, ⟨(zb w)⟩⟩
   case round =>
    clear H'
    try clear c1
    try clear c2
    try clear p2
    try clear q2
    try clear hx2
    try clear c3
    try clear c3b0
    try clear c4
    try clear c5
    try clear c5b0
    try clear c6
    try clear p6
    try clear c7
    try clear c9
    try clear c10
    try clear c11
    try clear c12
    try clear c17
    try clear c18
    try clear c19
    try clear c22
    try clear c22b0
    try clear c23
    try clear c23b0
    try clear c24
    try clear c24b0
    try clear c26
    try clear c26b0
    try clear c27
    try clear p27
    try clear q27
    try clear hx27
    try clear c30
    try clear c31
    try clear c32
    try clear c37
    try clear c40
    try clear c41
    try clear c42
    try clear c48
    try clear c49
    try clear c50
    try clear c54
    try clear c55
    try clear c58
    try clear c58b0
    try clear c58b1
    try clear c62
    try clear c63
    try clear p64
    try clear c65
    try clear c68
    try clear c69
    try clear c70
    try clear hcz11_0 hcz11_1
    try clear hcz13_0 hcz13_1
    try clear hcz15_0 hcz15_1
    try clear hcz20_0 hcz20_1
    try clear hcz21_0 hcz21_1
    try clear hcz33_0 hcz33_1
    try clear hcz36_0 hcz36_1
    try clear hcz43_0 hcz43_1
    try clear hcz46_0 hcz46_1
    try clear hcz51_0 hcz51_1
    try clear hcz56_0 hcz56_1
    try clear hcz64_0 hcz64_1
    try clear hcz66_0 hcz66_1
    try clear hcz71_0 hcz71_1
    try clear hcz72_0 hcz72_1
    try clear hcz73_0 hcz73_1
    try clear hfz11_0 hfz11_1
    try clear hfz13_0 hfz13_1
    try clear hfz15_0 hfz15_1
    try clear hfz20_0 hfz20_1
    try clear hfz21_0 hfz21_1
    try clear hfz33_0 hfz33_1
    try clear hfz36_0 hfz36_1
    try clear hfz43_0 hfz43_1
    try clear hfz46_0 hfz46_1
    try clear hfz51_0 hfz51_1
    try clear hfz56_0 hfz56_1
    try clear hfz64_0 hfz64_1
    try clear hfz66_0 hfz66_1
    try clear hfz71_0 hfz71_1
    try clear hfz72_0 hfz72_1
    try clear hfz73_0 hfz73_1
    try clear hx276_0
    try clear p2
    try clear p276
    try clear p6
    try clear q276
    obtain ⟨x10_1, x71_1, x289001_1, u289001, rfl, rfl, HA, HK1, HO_289001, BK271, BK272, BK273, BK288, HB⟩ := hrel
    cases gk with
    | zero => exact absurd HA.out (by simp [zw.l1])
    | succ k1 =>
     have H := HA.out
     clear HA
     simp only [zw.l1] at H
     by_cases c74 : x71_1 < (wrap64 ((l1_1.length : Int) + 1))
     ·rw [if_pos c74] at H
      have c74b0 : decide (x71_1 < (wrap64 ((l1_1.length : Int) + 1))) = true := decide_eq_true c74
      clear c74
      replace H := Option.bind_eq_some_iff.mp H
      obtain ⟨t289, A750, H⟩ := H
      try dsimp only at H
      have A75 := zQ.mk A750
      clear A750
      replace H := Option.bind_eq_some_iff.mp H
      obtain ⟨t290, A760, H⟩ := H
      try dsimp only at H
      have A76 := zQ.mk A760
      clear A760
      by_cases c77 : x289001_1.length < 17592186044416
      ·rw [if_pos c77] at H
       have LMc77 := zQ.mk c77
       clear c77
       obtain ⟨y291, hy291⟩ : ∃ y_ : List Int, y_ = (x289001_1 ++ [Int.tmod (wrap64 ((wrap64 (t289 + t290)) + x10_1)) 1000000]) := ⟨_, rfl⟩
       replace H : (zw.l1 k1 (wrap64 (Int.tdiv (wrap64 ((wrap64 (t289 + t290)) + x10_1)) 1000000)) (wrap64 ((l1_1.length : Int) + 1)) (wrap64 (x71_1 + 1)) a0_0 l0_1 a1_0 l1_1 a0_0 y291) = some (r1, r2) := by first | (rw [hy291]; with_reducible exact H) | (have H2_ := (Option.bind_some _ _).symm.trans H; rw [hy291]; with_reducible exact H2_) | (have H2_ := (Option.bind_some _ _).symm.trans H; with_reducible exact H2_) | with_reducible exact H | (rw [hy291]; exact H) | exact H
       have Ny291 := zQ.mk hy291
       clear hy291
       have H' := zQ.mk H
       clear H
       try go_wp2
       have n0_ := zQ.mk (Kd.xw HO_289001.out)
       have n1_ := zQ.mk (zK BK271.out)
       have n2_ := zQ.mk (zK BK272.out)
       have n3_ := zQ.mk (zK BK273.out)
       have n4_ := zQ.mk (zK BK288.out)
       have n5_ := zQ.mk (qD HB.out)
       clear HO_289001
       clear BK271
       clear BK272
       clear BK273
       clear BK288
       clear HB
       have HO_289001 := n0_
       have BK271 := n1_
       have BK272 := n2_
       have BK273 := n3_
       have BK288 := n4_
       have HB := n5_
       clear n0_ n1_ n2_ n3_ n4_ n5_
       refine uH (n := 12) (S := fun w' => w'.cell? ⟨gb271, 0, none⟩ = some (.bool a0_0) ∧ w'.cell? ⟨gb271, 1, none⟩ = some (.slice A0_1 l0_1.length c0_1) ∧ w'.cell? ⟨gb272, 0, none⟩ = some (.bool a1_0) ∧ w'.cell? ⟨gb272, 1, none⟩ = some (.slice A1_1 l1_1.length c1_1)) (ds := []) (bm 12 0) (by kernel_rfl) rfl rfl ⟨(zx BK271.out 0).trans rfl, (zx BK271.out 1).trans rfl, (zx BK272.out 0).trans rfl, (zx BK272.out 1).trans rfl⟩ (fun hHeld => ?_); refine vF zw.tab21 zw.bits21 (fun HT_ HW_ => ?_)
       generalize wr.drew = w78 at HO_289001 BK271 BK272 BK273 BK288 HB hHeld ⊢
       refine pu 0 74 (bm 12 1) HT_ ?_
       refine pu 2 76 (bm 12 5) HT_ ?_
       refine pu 4 78 (bm 12 21) HT_ ?_
       refine pu 6 80 (bm 12 85) HT_ ?_
       refine pu 9 83 (bm 12 597) HT_ ?_
       refine ta4 1 75 (bm 12 599) HT_ HW_ hHeld ?_
       refine ta4 5 79 (bm 12 631) HT_ HW_ hHeld ?_
       refine one_ (i := 3) (N := some 77) (bm 12 639) rfl rfl (yN HT_.out (by kernel_rfl)) (by decide) (fun K hK => ?_)
       refine gs Tryz.func112 #[.slice A0_1 l0_1.length c0_1, .int .i64 x71_1] ?_
       with_reducible refine (qw.calls _ _ l0_1 x71_1 t289 _ (zc HR0_1) HC0_1.out A75.out).mono ?_
       rintro e w79 ⟨rfl, hb⟩
       refine ⟨_, rfl, ?_⟩
       have n0_ := rb HO_289001 hb
       have n1_ := bb BK271 hb
       have n2_ := bb BK272 hb
       have n3_ := bb BK273 hb
       have n4_ := bb BK288 hb
       have n5_ := hs w hb
       clear HO_289001
       clear BK271
       clear BK272
       clear BK273
       clear BK288
       clear HB
       have HO_289001 := n0_
       have BK271 := n1_
       have BK272 := n2_
       have BK273 := n3_
       have BK288 := n4_
       have HB := n5_
       clear n0_ n1_ n2_ n3_ n4_ n5_
       (try clear hb)
       (try clear hb2)
       (try clear hk)
       (try clear hi)
       refine hK.out _ _ ⟨(zx BK271.out 0).trans rfl, (zx BK271.out 1).trans rfl, (zx BK272.out 0).trans rfl, (zx BK272.out 1).trans rfl⟩ (fun hHeld => ?_)
       clear hK K
       refine uG (a' := ?_) ?_ ?_
       rotate_left
       ·show Act.put _ (some 77) _ = _
        simp only [sq, jw, vL]
        rfl
       refine one_ (i := 7) (N := some 81) (bm 12 767) rfl rfl (yN HT_.out (by kernel_rfl)) (by decide) (fun K hK => ?_)
       refine gs Tryz.func112 #[.slice A1_1 l1_1.length c1_1, .int .i64 x71_1] ?_
       with_reducible refine (qw.calls _ _ l1_1 x71_1 t290 _ (zc HR1_1) HC1_1.out A76.out).mono ?_
       rintro e w80 ⟨rfl, hb⟩
       refine ⟨_, rfl, ?_⟩
       have n0_ := rb HO_289001 hb
       have n1_ := bb BK271 hb
       have n2_ := bb BK272 hb
       have n3_ := bb BK273 hb
       have n4_ := bb BK288 hb
       have n5_ := hs w hb
       clear HO_289001
       clear BK271
       clear BK272
       clear BK273
       clear BK288
       clear HB
       have HO_289001 := n0_
       have BK271 := n1_
       have BK272 := n2_
       have BK273 := n3_
       have BK288 := n4_
       have HB := n5_
       clear n0_ n1_ n2_ n3_ n4_ n5_
       (try clear hb)
       (try clear hb2)
       (try clear hk)
       (try clear hi)
       refine hK.out _ _ ⟨(zx BK271.out 0).trans rfl, (zx BK271.out 1).trans rfl, (zx BK272.out 0).trans rfl, (zx BK272.out 1).trans rfl⟩ (fun hHeld => ?_)
       clear hK K
       refine uG (a' := ?_) ?_ ?_
       rotate_left
       ·show Act.put _ (some 81) _ = _
        simp only [sq, jw, vL]
        rfl
       refine pu 8 82 (bm 12 1023) HT_ ?_
       refine pu 10 84 (bm 12 2047) HT_ ?_
       refine pu 11 12 (bm 12 4095) HT_ ?_
       refine zQh (uq HT_.out (by kernel_rfl)) ?_
       have hnb81 := NB288_271.out
       have hnc81 := NB271_288.out
       have hnb82 := NB288_272.out
       have hnc82 := NB272_288.out
       have hnb83 := NB288_273.out
       have hnc83 := NB273_288.out
       obtain ⟨hcz84_0, hcz84_1, hfz84_0, hfz84_1⟩ := cz2 BK288
       try go_wp2_with (first | ((with_reducible refine jR (b := .append) (xs := #[.tmp 86, .tmp 89]) rfl ?_); at_builtin; refine Kd.vJ (Kd.int .i64) (w0 := w) w.heap.size rfl (.tmp 86) (.tmp 89) 39 3 (.int .i64 0) 8 rfl Tryz.underlying39 info3 rfl (by decide) (by omega) u289001 x289001_1 (Int.tmod (wrap64 ((wrap64 (t289 + t290)) + x10_1)) 1000000) [.int .i64 (Int.tmod (wrap64 ((wrap64 (t289 + t290)) + x10_1)) 1000000)] (fun k_ => (w.heap.size ≤ k_)) (fun _ => False) rfl rfl ?aP (fun _ hk => hk.elim) ?aF ?aO ?aB ?aS ?aL ?_; (case aP => exact rfl); (case aB => exact (zb w)); (case aF => exact (fun k_ hk => (Nat.le_trans (zy (zb w)) hk))); (case aO => exact (zo HO_289001)); (case aS => exact (zy (zb w))); (case aL => have := LMc77.out; omega); intro v292 w85 ho hb hg hat; rw [← Ny291.out] at ho; replace BK271 := zQ.mk (qR (g := gb271) (o := .cells #[.bool a0_0, .slice A0_1 l0_1.length c0_1] 121 (0, 0)) (zk BK271) hg (Kd.R_ne HO_289001.out BK271.out (by decide))); replace BK272 := zQ.mk (qR (g := gb272) (o := .cells #[.bool a1_0, .slice A1_1 l1_1.length c1_1] 121 (0, 0)) (zk BK272) hg (Kd.R_ne HO_289001.out BK272.out (by decide))); replace BK273 := zQ.mk (qR (g := gb273) (o := .cells #[.bool false, .slice none 0 0] 121 (0, 0)) (zk BK273) hg (Kd.R_ne HO_289001.out BK273.out (by decide))); replace BK288 := zQ.mk (qR (g := gb288) (o := .cells #[.bool a0_0, u289001] 121 (0, 0)) (zk BK288) hg (Kd.R_ne HO_289001.out BK288.out (by decide))); replace HB := zQ.mk (hb); have HO293 := zQ.mk (ho); clear HO_289001; clear ho hb hg hat; obtain ⟨Ao86, co86, eo86⟩ := Kd.xx HO293.out; subst eo86; obtain ⟨hcz87_0, hcz87_1, hfz87_0, hfz87_1⟩ := cz2 BK288))
       go_roundg k1
       case measure => have := HK1.out; omega
       case rel => exact ⟨(wrap64 (Int.tdiv (wrap64 ((wrap64 (t289 + t290)) + x10_1)) 1000000)), (wrap64 (x71_1 + 1)), (y291), (.slice Ao86 y291.length co86), ar, ar, H', ⟨by have := HK1.out; omega⟩, ⟨by (with_reducible repeat (first | apply Kd.xU | apply Kd.xS | apply Kd.xw)); exact Kd.vw (Kd.zZd (p := ⟨gb288, 1, none⟩) (Kd.zB HO293.out BK288.out (by decide)) (fun _ hk => hk.2) (.slice Ao86 y291.length co86)) (fun _ hk => hk.1)⟩, ⟨by (with_reducible repeat (first | refine zJ ?_ _ | refine zK ?_ | refine zZ ?_ _)); refine zF ?_ NB271_288.out _; exact zk BK271⟩, ⟨by (with_reducible repeat (first | refine zJ ?_ _ | refine zK ?_ | refine zZ ?_ _)); refine zF ?_ NB272_288.out _; exact zk BK272⟩, ⟨by (with_reducible repeat (first | refine zJ ?_ _ | refine zK ?_ | refine zZ ?_ _)); refine zF ?_ NB273_288.out _; exact zk BK273⟩, ⟨by (with_reducible repeat (first | refine zJ ?_ _ | refine zK ?_ | refine zZ ?_ _)); refine zL (cs := #[.bool a0_0, u289001]) ?_ 1 _ rfl; exact zk BK288⟩, ⟨(zb w)⟩⟩
      ·rw [if_neg c77] at H
       exact absurd H (by simp)
     ·rw [if_neg c74] at H
      have c74b0 : decide (x71_1 < (wrap64 ((l1_1.length : Int) + 1))) = false := decide_eq_false c74
      clear c74
      replace H := Option.bind_eq_some_iff.mp H
      obtain ⟨⟨t294, t295⟩, A880, H⟩ := H
      try dsimp only at H
      have A88 := zQ.mk A880
      clear A880
      simp only [Option.some.injEq, Prod.mk.injEq] at H
      obtain ⟨rfl, rfl⟩ := H
      have hnb89 := NB288_271.out
      have hnc89 := NB271_288.out
      have hnb90 := NB288_272.out
      have hnc90 := NB272_288.out
      have hnb91 := NB288_273.out
      have hnc91 := NB273_288.out
      obtain ⟨hcz92_0, hcz92_1, hfz92_0, hfz92_1⟩ := cz2 BK288
      obtain ⟨Ao93, co93, eo93⟩ := Kd.xx HO_289001.out
      subst eo93
      go_wp2_with (first | ((with_reducible refine gC 113 rfl ?_); refine gl_ 96 Tryz.func113 #[.agg #[.bool a0_0, .slice Ao93 x289001_1.length co93]] ?_; (with_reducible refine (zM.calls k1 a0_0 (fun k_ => some k_ = (.slice Ao93 x289001_1.length co93 : Value).ownBlock) _ _ x289001_1 t294 t295 _ ?side1 A88.out).mono ?_); (case side1 => exact Kd.R_V (Kd.uU rfl (Kd.zB (Kd.zB (Kd.zB (Kd.zB (HO_289001.out) BK271.out (by decide)) BK272.out (by decide)) BK273.out (by decide)) BK288.out (by decide)))); rintro e w94 ⟨v296, rfl, ho0, hb⟩; refine ⟨_, rfl, ?_⟩; have HO297 := zQ.mk (Kd.xJ (Kd.zR (ok' := fun k_ => (w.heap.size ≤ k_) ∧ k_ ≠ gb271 ∧ k_ ≠ gb272 ∧ k_ ≠ gb273 ∧ k_ ≠ gb288) ho0 (fun k_ hk_ => ⟨Or.elim hk_ (fun hs_ => ((Kd.zB (Kd.zB (Kd.zB (Kd.zB (HO_289001.out) BK271.out (by decide)) BK272.out (by decide)) BK273.out (by decide)) BK288.out (by decide)).1 k_ hs_.symm).1.1.1.1) (fun hn_ => (Nat.le_trans (zy (zb w)) hn_)), Or.elim hk_ (fun hs_ => ((Kd.zB (Kd.zB (Kd.zB (Kd.zB (HO_289001.out) BK271.out (by decide)) BK272.out (by decide)) BK273.out (by decide)) BK288.out (by decide)).1 k_ hs_.symm).1.1.1.2) (fun hn_ => (Kd.qH (g := gb271) (o := .cells #[.bool a0_0, .slice A0_1 l0_1.length c0_1] 121 (0, 0)) (zk BK271) k_ hn_)), Or.elim hk_ (fun hs_ => ((Kd.zB (Kd.zB (Kd.zB (Kd.zB (HO_289001.out) BK271.out (by decide)) BK272.out (by decide)) BK273.out (by decide)) BK288.out (by decide)).1 k_ hs_.symm).1.1.2) (fun hn_ => (Kd.qH (g := gb272) (o := .cells #[.bool a1_0, .slice A1_1 l1_1.length c1_1] 121 (0, 0)) (zk BK272) k_ hn_)), Or.elim hk_ (fun hs_ => ((Kd.zB (Kd.zB (Kd.zB (Kd.zB (HO_289001.out) BK271.out (by decide)) BK272.out (by decide)) BK273.out (by decide)) BK288.out (by decide)).1 k_ hs_.symm).1.2) (fun hn_ => (Kd.qH (g := gb273) (o := .cells #[.bool false, .slice none 0 0] 121 (0, 0)) (zk BK273) k_ hn_)), Or.elim hk_ (fun hs_ => ((Kd.zB (Kd.zB (Kd.zB (Kd.zB (HO_289001.out) BK271.out (by decide)) BK272.out (by decide)) BK273.out (by decide)) BK288.out (by decide)).1 k_ hs_.symm).2) (fun hn_ => (Kd.qH (g := gb288) (o := .cells #[.bool a0_0, .slice Ao93 x289001_1.length co93] 121 (0, 0)) (zk BK288) k_ hn_))⟩)) (zy (zb w))); replace HO_289001 := rb HO_289001 hb; replace BK271 := bb BK271 hb; replace BK272 := bb BK272 hb; replace BK273 := bb BK273 hb; replace BK288 := bb BK288 hb; replace HB := hs w hb; (try clear hb); (try clear ho0); have hnb95 := NB273_271.out; have hnc95 := NB271_273.out; have hnb96 := NB273_272.out; have hnc96 := NB272_273.out; obtain ⟨hcz97_0, hcz97_1, hfz97_0, hfz97_1⟩ := cz2 BK273; obtain ⟨Ao98, co98, eo98⟩ := Kd.jW HO297.out; subst eo98))
      refine bodyPost_ret (results_cell_row rfl _ _ gb273 121 #[.bool t294, .slice Ao98 t295.length co98] (0, 0) _ rfl (by (with_reducible repeat (first | refine zJ ?_ _ | refine zK ?_ | refine zZ ?_ _)); refine zL (cs := #[.bool t294, .slice none 0 0]) ?_ 1 _ rfl; (with_reducible repeat (first | refine zJ ?_ _ | refine zK ?_ | refine zZ ?_ _)); refine zL (cs := #[.bool false, .slice none 0 0]) ?_ 0 _ rfl; exact zk BK273) Tryz.underlying121 rfl (by kernel_rfl)) rfl ?_
      exact ⟨_, by first | rfl | (simp [zq, zY] <;> rfl) | (simp [*, zq, zY] <;> rfl), by (with_reducible repeat (first | apply Kd.V_alloc | apply Kd.V_drewN | apply Kd.zT)); exact Kd.zR (Kd.qL (p := ⟨gb273, 1, none⟩) (Kd.qL (p := ⟨gb273, 0, none⟩) (Kd.zR HO297.out (fun k_ hk => (⟨hk, hk.2.2.2.1⟩ : _ ∧ k_ ≠ gb273))) (fun _ hk => hk.2) (.bool t294)) (fun _ hk => hk.2) (.slice Ao98 t295.length co98)) (fun _ hk => hk.1.1), (zb w)⟩
  ·rw [if_neg c58] at H
   have c58i := eq_false c58
   have c58b0 : decide ((l0_1.length : Int) < (l1_1.length : Int)) = false := decide_eq_false c58
   have c58b1 : decide (l0_1.length < l1_1.length) = false := decide_eq_false (fun h => c58 (Int.ofNat_lt.mpr h))
   clear c58
   have H' := zQ.mk H
   clear H
   go_enter Tryz.func101, Tryz.ntmps101
   go_wp2_with (first | ((with_reducible refine gD 2 rfl ?_); refine bx w 2 #[.bool a0_0, .slice A0_1 l0_1.length c0_1] 121 ?_; intro gb271 hg w99 hb BK271 GW271 GE271; clear HB; intro HB; clear hb hg) | ((with_reducible refine gD 3 rfl ?_); refine bx w 3 #[.bool a1_0, .slice A1_1 l1_1.length c1_1] 121 ?_; intro gb272 hg w100 hb BK272 GW272 GE272; clear HB; intro HB; have NB271_272 := nbl BK271 hg; have NB272_271 := nbr BK271 hg; replace BK271 := bb BK271 hb; clear hb hg) | ((with_reducible refine gD 4 rfl ?_); refine bx w 4 #[.bool false, .slice none 0 0] 121 ?_; intro gb273 hg w101 hb BK273 GW273 GE273; clear HB; intro HB; have NB271_273 := nbl BK271 hg; have NB273_271 := nbr BK271 hg; replace BK271 := bb BK271 hb; have NB272_273 := nbl BK272 hg; have NB273_272 := nbr BK272 hg; replace BK272 := bb BK272 hb; clear hb hg; have hnb102 := NB271_272.out; have hnc102 := NB272_271.out; have hnb103 := NB271_273.out; have hnc103 := NB273_271.out; obtain ⟨hcz104_0, hcz104_1, hfz104_0, hfz104_1⟩ := cz2 BK271; have hnb105 := NB272_273.out; have hnc105 := NB273_272.out; obtain ⟨hcz106_0, hcz106_1, hfz106_0, hfz106_1⟩ := cz2 BK272) | ((with_reducible refine gD 9 rfl ?_); refine bx w 9 #[.bool false, .slice none 0 0] 121 ?_; intro gb288 hg w107 hb BK288 GW288 GE288; clear HB; intro HB; have NB271_288 := nbl BK271 hg; have NB288_271 := nbr BK271 hg; replace BK271 := bb BK271 hb; have NB272_288 := nbl BK272 hg; have NB288_272 := nbr BK272 hg; replace BK272 := bb BK272 hb; have NB273_288 := nbl BK273 hg; have NB288_273 := nbr BK273 hg; replace BK273 := bb BK273 hb; clear hb hg; have hnb108 := NB288_271.out; have hnc108 := NB271_288.out; have hnb109 := NB288_272.out; have hnc109 := NB272_288.out; have hnb110 := NB288_273.out; have hnc110 := NB273_288.out; obtain ⟨hcz111_0, hcz111_1, hfz111_0, hfz111_1⟩ := cz2 BK288; obtain ⟨hcz112_0, hcz112_1, hfz112_0, hfz112_1⟩ := cz2 BK271; obtain ⟨hcz113_0, hcz113_1, hfz113_0, hfz113_1⟩ := cz2 BK272))
   try simp only [sq]
   go_loopg [10, 71] k (fun kq v10 v71 w' => ∃ (x10_1 : Int) (x71_1 : Int) (x289001_1 : List Int) (u289001 : Value), v10 = .int .i64 x10_1 ∧ v71 = .int .i64 x71_1 ∧ zQ (zw.l1 kq x10_1 (wrap64 ((l0_1.length : Int) + 1)) x71_1 a0_0 l0_1 a1_0 l1_1 a0_0 x289001_1 = some (r1, r2)) ∧ zQ (kq ≤ k) ∧ zQ (Kd.R (Kd.int .i64) 3 w' w.heap.size (fun k_ => (w.heap.size ≤ k_)) u289001 x289001_1) ∧ zQ (w'.heap[gb271]? = some (.cells #[.bool a0_0, (.slice A0_1 l0_1.length c0_1)] 121 (0, 0))) ∧ zQ (w'.heap[gb272]? = some (.cells #[.bool a1_0, (.slice A1_1 l1_1.length c1_1)] 121 (0, 0))) ∧ zQ (w'.heap[gb273]? = some (.cells #[.bool false, (.slice none 0 0)] 121 (0, 0))) ∧ zQ (w'.heap[gb288]? = some (.cells #[.bool a0_0, u289001] 121 (0, 0))) ∧ zQ (Below w.heap.size w w'))
   case atStart => exact ⟨(0), (0), (([] : List Int)), (.slice none 0 0), ar, ar, H', ⟨Nat.le_refl _⟩, ⟨by first | exact Kd.kN _ _ _ _ _ | exact Kd.N_nil _ _ _ _ _ | exact Kd.qKb _ _ _ _ _ | exact Kd.Q_nil _ _ _ _ _ | exact Kd.S_nil _ _ _ _ _⟩, ⟨by (with_reducible repeat (first | refine zJ ?_ _ | refine zK ?_ | refine zZ ?_ _)); refine zF ?_ NB271_288.out _; (with_reducible repeat (first | refine zJ ?_ _ | refine zK ?_ | refine zZ ?_ _)); refine zF ?_ NB271_288.out _; exact zk BK271⟩, ⟨by (with_reducible repeat (first | refine zJ ?_ _ | refine zK ?_ | refine zZ ?_ _)); refine zF ?_ NB272_288.out _; (with_reducible repeat (first | refine zJ ?_ _ | refine zK ?_ | refine zZ ?_ _)); refine zF ?_ NB272_288.out _; exact zk BK272⟩, ⟨by (with_reducible repeat (first | refine zJ ?_ _ | refine zK ?_ | refine zZ ?_ _)); refine zF ?_ NB273_288.out _; (with_reducible repeat (first | refine zJ ?_ _ | refine zK ?_ | refine zZ ?_ _)); refine zF ?_ NB273_288.out _; exact zk BK273⟩, ⟨by (with_reducible repeat (first | refine zJ ?_ _ | refine zK ?_ | refine zZ ?_ _)); refine zL (cs := #[.bool a0_0, .slice none 0 0]) ?_ 1 _ rfl; (with_reducible repeat (first | refine zJ ?_ _ | refine zK ?_ | refine zZ ?_ _)); refine zL (cs := #[.bool false, .slice none 0 0]) ?_ 0 _ rfl; exact zk BK288⟩, ⟨(zb w)⟩⟩
   case round =>
    clear H'
    try clear c1
    try clear c2
    try clear p2
    try clear q2
    try clear hx2
    try clear c3
    try clear c3b0
    try clear c4
    try clear c5
    try clear c5b0
    try clear c6
    try clear p6
    try clear c7
    try clear c8
    try clear c9
    try clear c10
    try clear c11
    try clear c12
    try clear c17
    try clear c18
    try clear c19
    try clear c22
    try clear c22b0
    try clear c23
    try clear c23b0
    try clear c24
    try clear c24b0
    try clear c26
    try clear c26b0
    try clear c27
    try clear p27
    try clear q27
    try clear hx27
    try clear c30
    try clear c31
    try clear c32
    try clear c37
    try clear c40
    try clear c41
    try clear c42
    try clear c48
    try clear c49
    try clear c50
    try clear c54
    try clear c55
    try clear c58
    try clear c58b0
    try clear c58b1
    try clear c62
    try clear c63
    try clear p64
    try clear c65
    try clear c68
    try clear c69
    try clear c70
    try clear c74
    try clear c74b0
    try clear c77
    try clear c81
    try clear c82
    try clear c83
    try clear c89
    try clear c90
    try clear c91
    try clear c95
    try clear c96
    try clear c101
    try clear c102
    try clear c103
    try clear c105
    try clear c108
    try clear c109
    try clear c110
    try clear c112
    try clear c113
    try clear hcz104_0 hcz104_1
    try clear hcz106_0 hcz106_1
    try clear hcz111_0 hcz111_1
    try clear hcz112_0 hcz112_1
    try clear hcz113_0 hcz113_1
    try clear hcz11_0 hcz11_1
    try clear hcz13_0 hcz13_1
    try clear hcz15_0 hcz15_1
    try clear hcz20_0 hcz20_1
    try clear hcz21_0 hcz21_1
    try clear hcz33_0 hcz33_1
    try clear hcz36_0 hcz36_1
    try clear hcz43_0 hcz43_1
    try clear hcz46_0 hcz46_1
    try clear hcz51_0 hcz51_1
    try clear hcz56_0 hcz56_1
    try clear hcz64_0 hcz64_1
    try clear hcz66_0 hcz66_1
    try clear hcz71_0 hcz71_1
    try clear hcz72_0 hcz72_1
    try clear hcz73_0 hcz73_1
    try clear hcz84_0 hcz84_1
    try clear hcz87_0 hcz87_1
    try clear hcz92_0 hcz92_1
    try clear hcz97_0 hcz97_1
    try clear hfz104_0 hfz104_1
    try clear hfz106_0 hfz106_1
    try clear hfz111_0 hfz111_1
    try clear hfz112_0 hfz112_1
    try clear hfz113_0 hfz113_1
    try clear hfz11_0 hfz11_1
    try clear hfz13_0 hfz13_1
    try clear hfz15_0 hfz15_1
    try clear hfz20_0 hfz20_1
    try clear hfz21_0 hfz21_1
    try clear hfz33_0 hfz33_1
    try clear hfz36_0 hfz36_1
    try clear hfz43_0 hfz43_1
    try clear hfz46_0 hfz46_1
    try clear hfz51_0 hfz51_1
    try clear hfz56_0 hfz56_1
    try clear hfz64_0 hfz64_1
    try clear hfz66_0 hfz66_1
    try clear hfz71_0 hfz71_1
    try clear hfz72_0 hfz72_1
    try clear hfz73_0 hfz73_1
    try clear hfz84_0 hfz84_1
    try clear hfz87_0 hfz87_1
    try clear hfz92_0 hfz92_1
    try clear hfz97_0 hfz97_1
    try clear hx276_0
    try clear p2
    try clear p27
    try clear p276
    try clear p6
    try clear p64
    try clear q2
    try clear q27
    try clear q276
    obtain ⟨x10_1, x71_1, x289001_1, u289001, rfl, rfl, HA, HK1, HO_289001, BK271, BK272, BK273, BK288, HB⟩ := hrel
    cases gk with
    | zero => exact absurd HA.out (by simp [zw.l1])
    | succ k1 =>
     have H := HA.out
     clear HA
     simp only [zw.l1] at H
     by_cases c114 : x71_1 < (wrap64 ((l0_1.length : Int) + 1))
     ·rw [if_pos c114] at H
      have c114b0 : decide (x71_1 < (wrap64 ((l0_1.length : Int) + 1))) = true := decide_eq_true c114
      clear c114
      replace H := Option.bind_eq_some_iff.mp H
      obtain ⟨t289, A1150, H⟩ := H
      try dsimp only at H
      have A115 := zQ.mk A1150
      clear A1150
      replace H := Option.bind_eq_some_iff.mp H
      obtain ⟨t290, A1160, H⟩ := H
      try dsimp only at H
      have A116 := zQ.mk A1160
      clear A1160
      by_cases c117 : x289001_1.length < 17592186044416
      ·rw [if_pos c117] at H
       have LMc117 := zQ.mk c117
       clear c117
       obtain ⟨y291, hy291⟩ : ∃ y_ : List Int, y_ = (x289001_1 ++ [Int.tmod (wrap64 ((wrap64 (t289 + t290)) + x10_1)) 1000000]) := ⟨_, rfl⟩
       replace H : (zw.l1 k1 (wrap64 (Int.tdiv (wrap64 ((wrap64 (t289 + t290)) + x10_1)) 1000000)) (wrap64 ((l0_1.length : Int) + 1)) (wrap64 (x71_1 + 1)) a0_0 l0_1 a1_0 l1_1 a0_0 y291) = some (r1, r2) := by first | (rw [hy291]; with_reducible exact H) | (have H2_ := (Option.bind_some _ _).symm.trans H; rw [hy291]; with_reducible exact H2_) | (have H2_ := (Option.bind_some _ _).symm.trans H; with_reducible exact H2_) | with_reducible exact H | (rw [hy291]; exact H) | exact H
       have Ny291 := zQ.mk hy291
       clear hy291
       have H' := zQ.mk H
       clear H
       try go_wp2
       have n0_ := zQ.mk (Kd.xw HO_289001.out)
       have n1_ := zQ.mk (zK BK271.out)
       have n2_ := zQ.mk (zK BK272.out)
       have n3_ := zQ.mk (zK BK273.out)
       have n4_ := zQ.mk (zK BK288.out)
       have n5_ := zQ.mk (qD HB.out)
       clear HO_289001
       clear BK271
       clear BK272
       clear BK273
       clear BK288
       clear HB
       have HO_289001 := n0_
       have BK271 := n1_
       have BK272 := n2_
       have BK273 := n3_
       have BK288 := n4_
       have HB := n5_
       clear n0_ n1_ n2_ n3_ n4_ n5_
       refine uH (n := 12) (S := fun w' => w'.cell? ⟨gb271, 0, none⟩ = some (.bool a0_0) ∧ w'.cell? ⟨gb271, 1, none⟩ = some (.slice A0_1 l0_1.length c0_1) ∧ w'.cell? ⟨gb272, 0, none⟩ = some (.bool a1_0) ∧ w'.cell? ⟨gb272, 1, none⟩ = some (.slice A1_1 l1_1.length c1_1)) (ds := []) (bm 12 0) (by kernel_rfl) rfl rfl ⟨(zx BK271.out 0).trans rfl, (zx BK271.out 1).trans rfl, (zx BK272.out 0).trans rfl, (zx BK272.out 1).trans rfl⟩ (fun hHeld => ?_); refine vF zw.tab21 zw.bits21 (fun HT_ HW_ => ?_)
       generalize wr.drew = w118 at HO_289001 BK271 BK272 BK273 BK288 HB hHeld ⊢
       refine pu 0 74 (bm 12 1) HT_ ?_
       refine pu 2 76 (bm 12 5) HT_ ?_
       refine pu 4 78 (bm 12 21) HT_ ?_
       refine pu 6 80 (bm 12 85) HT_ ?_
       refine pu 9 83 (bm 12 597) HT_ ?_
       refine ta4 1 75 (bm 12 599) HT_ HW_ hHeld ?_
       refine ta4 5 79 (bm 12 631) HT_ HW_ hHeld ?_
       refine one_ (i := 3) (N := some 77) (bm 12 639) rfl rfl (yN HT_.out (by kernel_rfl)) (by decide) (fun K hK => ?_)
       refine gs Tryz.func112 #[.slice A0_1 l0_1.length c0_1, .int .i64 x71_1] ?_
       with_reducible refine (qw.calls _ _ l0_1 x71_1 t289 _ (zc HR0_1) HC0_1.out A115.out).mono ?_
       rintro e w119 ⟨rfl, hb⟩
       refine ⟨_, rfl, ?_⟩
       have n0_ := rb HO_289001 hb
       have n1_ := bb BK271 hb
       have n2_ := bb BK272 hb
       have n3_ := bb BK273 hb
       have n4_ := bb BK288 hb
       have n5_ := hs w hb
       clear HO_289001
       clear BK271
       clear BK272
       clear BK273
       clear BK288
       clear HB
       have HO_289001 := n0_
       have BK271 := n1_
       have BK272 := n2_
       have BK273 := n3_
       have BK288 := n4_
       have HB := n5_
       clear n0_ n1_ n2_ n3_ n4_ n5_
       (try clear hb)
       (try clear hb2)
       (try clear hk)
       (try clear hi)
       refine hK.out _ _ ⟨(zx BK271.out 0).trans rfl, (zx BK271.out 1).trans rfl, (zx BK272.out 0).trans rfl, (zx BK272.out 1).trans rfl⟩ (fun hHeld => ?_)
       clear hK K
       refine uG (a' := ?_) ?_ ?_
       rotate_left
       ·show Act.put _ (some 77) _ = _
        simp only [sq, jw, vL]
        rfl
       refine one_ (i := 7) (N := some 81) (bm 12 767) rfl rfl (yN HT_.out (by kernel_rfl)) (by decide) (fun K hK => ?_)
       refine gs Tryz.func112 #[.slice A1_1 l1_1.length c1_1, .int .i64 x71_1] ?_
       with_reducible refine (qw.calls _ _ l1_1 x71_1 t290 _ (zc HR1_1) HC1_1.out A116.out).mono ?_
       rintro e w120 ⟨rfl, hb⟩
       refine ⟨_, rfl, ?_⟩
       have n0_ := rb HO_289001 hb
       have n1_ := bb BK271 hb
       have n2_ := bb BK272 hb
       have n3_ := bb BK273 hb
       have n4_ := bb BK288 hb
       have n5_ := hs w hb
       clear HO_289001
       clear BK271
       clear BK272
       clear BK273
       clear BK288
       clear HB
       have HO_289001 := n0_
       have BK271 := n1_
       have BK272 := n2_
       have BK273 := n3_
       have BK288 := n4_
       have HB := n5_
       clear n0_ n1_ n2_ n3_ n4_ n5_
       (try clear hb)
       (try clear hb2)
       (try clear hk)
       (try clear hi)
       refine hK.out _ _ ⟨(zx BK271.out 0).trans rfl, (zx BK271.out 1).trans rfl, (zx BK272.out 0).trans rfl, (zx BK272.out 1).trans rfl⟩ (fun hHeld => ?_)
       clear hK K
       refine uG (a' := ?_) ?_ ?_
       rotate_left
       ·show Act.put _ (some 81) _ = _
        simp only [sq, jw, vL]
        rfl
       refine pu 8 82 (bm 12 1023) HT_ ?_
       refine pu 10 84 (bm 12 2047) HT_ ?_
       refine pu 11 12 (bm 12 4095) HT_ ?_
       refine zQh (uq HT_.out (by kernel_rfl)) ?_
       have hnb121 := NB288_271.out
       have hnc121 := NB271_288.out
       have hnb122 := NB288_272.out
       have hnc122 := NB272_288.out
       have hnb123 := NB288_273.out
       have hnc123 := NB273_288.out
       obtain ⟨hcz124_0, hcz124_1, hfz124_0, hfz124_1⟩ := cz2 BK288
       try go_wp2_with (first | ((with_reducible refine jR (b := .append) (xs := #[.tmp 86, .tmp 89]) rfl ?_); at_builtin; refine Kd.vJ (Kd.int .i64) (w0 := w) w.heap.size rfl (.tmp 86) (.tmp 89) 39 3 (.int .i64 0) 8 rfl Tryz.underlying39 info3 rfl (by decide) (by omega) u289001 x289001_1 (Int.tmod (wrap64 ((wrap64 (t289 + t290)) + x10_1)) 1000000) [.int .i64 (Int.tmod (wrap64 ((wrap64 (t289 + t290)) + x10_1)) 1000000)] (fun k_ => (w.heap.size ≤ k_)) (fun _ => False) rfl rfl ?aP (fun _ hk => hk.elim) ?aF ?aO ?aB ?aS ?aL ?_; (case aP => exact rfl); (case aB => exact (zb w)); (case aF => exact (fun k_ hk => (Nat.le_trans (zy (zb w)) hk))); (case aO => exact (zo HO_289001)); (case aS => exact (zy (zb w))); (case aL => have := LMc117.out; omega); intro v292 w125 ho hb hg hat; rw [← Ny291.out] at ho; replace BK271 := zQ.mk (qR (g := gb271) (o := .cells #[.bool a0_0, .slice A0_1 l0_1.length c0_1] 121 (0, 0)) (zk BK271) hg (Kd.R_ne HO_289001.out BK271.out (by decide))); replace BK272 := zQ.mk (qR (g := gb272) (o := .cells #[.bool a1_0, .slice A1_1 l1_1.length c1_1] 121 (0, 0)) (zk BK272) hg (Kd.R_ne HO_289001.out BK272.out (by decide))); replace BK273 := zQ.mk (qR (g := gb273) (o := .cells #[.bool false, .slice none 0 0] 121 (0, 0)) (zk BK273) hg (Kd.R_ne HO_289001.out BK273.out (by decide))); replace BK288 := zQ.mk (qR (g := gb288) (o := .cells #[.bool a0_0, u289001] 121 (0, 0)) (zk BK288) hg (Kd.R_ne HO_289001.out BK288.out (by decide))); replace HB := zQ.mk (hb); have HO293 := zQ.mk (ho); clear HO_289001; clear ho hb hg hat; obtain ⟨Ao126, co126, eo126⟩ := Kd.xx HO293.out; subst eo126; obtain ⟨hcz127_0, hcz127_1, hfz127_0, hfz127_1⟩ := cz2 BK288))
       go_roundg k1
       case measure => have := HK1.out; omega
       case rel => exact ⟨(wrap64 (Int.tdiv (wrap64 ((wrap64 (t289 + t290)) + x10_1)) 1000000)), (wrap64 (x71_1 + 1)), (y291), (.slice Ao126 y291.length co126), ar, ar, H', ⟨by have := HK1.out; omega⟩, ⟨by (with_reducible repeat (first | apply Kd.xU | apply Kd.xS | apply Kd.xw)); exact Kd.vw (Kd.zZd (p := ⟨gb288, 1, none⟩) (Kd.zB HO293.out BK288.out (by decide)) (fun _ hk => hk.2) (.slice Ao126 y291.length co126)) (fun _ hk => hk.1)⟩, ⟨by (with_reducible repeat (first | refine zJ ?_ _ | refine zK ?_ | refine zZ ?_ _)); refine zF ?_ NB271_288.out _; exact zk BK271⟩, ⟨by (with_reducible repeat (first | refine zJ ?_ _ | refine zK ?_ | refine zZ ?_ _)); refine zF ?_ NB272_288.out _; exact zk BK272⟩, ⟨by (with_reducible repeat (first | refine zJ ?_ _ | refine zK ?_ | refine zZ ?_ _)); refine zF ?_ NB273_288.out _; exact zk BK273⟩, ⟨by (with_reducible repeat (first | refine zJ ?_ _ | refine zK ?_ | refine zZ ?_ _)); refine zL (cs := #[.bool a0_0, u289001]) ?_ 1 _ rfl; exact zk BK288⟩, ⟨(zb w)⟩⟩
      ·rw [if_neg c117] at H
       exact absurd H (by simp)
     ·rw [if_neg c114] at H
      have c114b0 : decide (x71_1 < (wrap64 ((l0_1.length : Int) + 1))) = false := decide_eq_false c114
      clear c114
      replace H := Option.bind_eq_some_iff.mp H
      obtain ⟨⟨t294, t295⟩, A1280, H⟩ := H
      try dsimp only at H
      have A128 := zQ.mk A1280
      clear A1280
      simp only [Option.some.injEq, Prod.mk.injEq] at H
      obtain ⟨rfl, rfl⟩ := H
      have hnb129 := NB288_271.out
      have hnc129 := NB271_288.out
      have hnb130 := NB288_272.out
      have hnc130 := NB272_288.out
      have hnb131 := NB288_273.out
      have hnc131 := NB273_288.out
      obtain ⟨hcz132_0, hcz132_1, hfz132_0, hfz132_1⟩ := cz2 BK288
      obtain ⟨Ao133, co133, eo133⟩ := Kd.xx HO_289001.out
      subst eo133
      go_wp2_with (first | ((with_reducible refine gC 113 rfl ?_); refine gl_ 96 Tryz.func113 #[.agg #[.bool a0_0, .slice Ao133 x289001_1.length co133]] ?_; (with_reducible refine (zM.calls k1 a0_0 (fun k_ => some k_ = (.slice Ao133 x289001_1.length co133 : Value).ownBlock) _ _ x289001_1 t294 t295 _ ?side1 A128.out).mono ?_); (case side1 => exact Kd.R_V (Kd.uU rfl (Kd.zB (Kd.zB (Kd.zB (Kd.zB (HO_289001.out) BK271.out (by decide)) BK272.out (by decide)) BK273.out (by decide)) BK288.out (by decide)))); rintro e w134 ⟨v296, rfl, ho0, hb⟩; refine ⟨_, rfl, ?_⟩; have HO297 := zQ.mk (Kd.xJ (Kd.zR (ok' := fun k_ => (w.heap.size ≤ k_) ∧ k_ ≠ gb271 ∧ k_ ≠ gb272 ∧ k_ ≠ gb273 ∧ k_ ≠ gb288) ho0 (fun k_ hk_ => ⟨Or.elim hk_ (fun hs_ => ((Kd.zB (Kd.zB (Kd.zB (Kd.zB (HO_289001.out) BK271.out (by decide)) BK272.out (by decide)) BK273.out (by decide)) BK288.out (by decide)).1 k_ hs_.symm).1.1.1.1) (fun hn_ => (Nat.le_trans (zy (zb w)) hn_)), Or.elim hk_ (fun hs_ => ((Kd.zB (Kd.zB (Kd.zB (Kd.zB (HO_289001.out) BK271.out (by decide)) BK272.out (by decide)) BK273.out (by decide)) BK288.out (by decide)).1 k_ hs_.symm).1.1.1.2) (fun hn_ => (Kd.qH (g := gb271) (o := .cells #[.bool a0_0, .slice A0_1 l0_1.length c0_1] 121 (0, 0)) (zk BK271) k_ hn_)), Or.elim hk_ (fun hs_ => ((Kd.zB (Kd.zB (Kd.zB (Kd.zB (HO_289001.out) BK271.out (by decide)) BK272.out (by decide)) BK273.out (by decide)) BK288.out (by decide)).1 k_ hs_.symm).1.1.2) (fun hn_ => (Kd.qH (g := gb272) (o := .cells #[.bool a1_0, .slice A1_1 l1_1.length c1_1] 121 (0, 0)) (zk BK272) k_ hn_)), Or.elim hk_ (fun hs_ => ((Kd.zB (Kd.zB (Kd.zB (Kd.zB (HO_289001.out) BK271.out (by decide)) BK272.out (by decide)) BK273.out (by decide)) BK288.out (by decide)).1 k_ hs_.symm).1.2) (fun hn_ => (Kd.qH (g := gb273) (o := .cells #[.bool false, .slice none 0 0] 121 (0, 0)) (zk BK273) k_ hn_)), Or.elim hk_ (fun hs_ => ((Kd.zB (Kd.zB (Kd.zB (Kd.zB (HO_289001.out) BK271.out (by decide)) BK272.out (by decide)) BK273.out (by decide)) BK288.out (by decide)).1 k_ hs_.symm).2) (fun hn_ => (Kd.qH (g := gb288) (o := .cells #[.bool a0_0, .slice Ao133 x289001_1.length co133] 121 (0, 0)) (zk BK288) k_ hn_))⟩)) (zy (zb w))); replace HO_289001 := rb HO_289001 hb; replace BK271 := bb BK271 hb; replace BK272 := bb BK272 hb; replace BK273 := bb BK273 hb; replace BK288 := bb BK288 hb; replace HB := hs w hb; (try clear hb); (try clear ho0); have hnb135 := NB273_271.out; have hnc135 := NB271_273.out; have hnb136 := NB273_272.out; have hnc136 := NB272_273.out; obtain ⟨hcz137_0, hcz137_1, hfz137_0, hfz137_1⟩ := cz2 BK273; obtain ⟨Ao138, co138, eo138⟩ := Kd.jW HO297.out; subst eo138))
      refine bodyPost_ret (results_cell_row rfl _ _ gb273 121 #[.bool t294, .slice Ao138 t295.length co138] (0, 0) _ rfl (by (with_reducible repeat (first | refine zJ ?_ _ | refine zK ?_ | refine zZ ?_ _)); refine zL (cs := #[.bool t294, .slice none 0 0]) ?_ 1 _ rfl; (with_reducible repeat (first | refine zJ ?_ _ | refine zK ?_ | refine zZ ?_ _)); refine zL (cs := #[.bool false, .slice none 0 0]) ?_ 0 _ rfl; exact zk BK273) Tryz.underlying121 rfl (by kernel_rfl)) rfl ?_
      exact ⟨_, by first | rfl | (simp [zq, zY] <;> rfl) | (simp [*, zq, zY] <;> rfl), by (with_reducible repeat (first | apply Kd.V_alloc | apply Kd.V_drewN | apply Kd.zT)); exact Kd.zR (Kd.qL (p := ⟨gb273, 1, none⟩) (Kd.qL (p := ⟨gb273, 0, none⟩) (Kd.zR HO297.out (fun k_ hk => (⟨hk, hk.2.2.2.1⟩ : _ ∧ k_ ≠ gb273))) (fun _ hk => hk.2) (.bool t294)) (fun _ hk => hk.2) (.slice Ao138 t295.length co138)) (fun _ hk => hk.1.1), (zb w)⟩
def zH.l0 : Nat → Int → Int → Int → Bool → List Int → Bool → List Int → Bool → List Int → Option (Bool × List Int)
 | 0, _, _, _, _, _, _, _, _, _ => none
 | k + 1, x6, x31, x32, x299000, x299001, x300000, x300001, x303000, x303001 => if x32 < x31 then (if 0 ≤ x32 then (if x32 < (x299001.length : Int) then ((qw.f x300001 x32).bind fun t304 => (if (wrap64 ((wrap64 ((rd x299001 x32) - t304)) - x6)) < 0 then (if x303001.length < 17592186044416 then (zH.l0 k 1 x31 (wrap64 (x32 + 1)) x299000 x299001 x300000 x300001 x303000 (x303001 ++ [wrap64 ((wrap64 ((wrap64 ((rd x299001 x32) - t304)) - x6)) + 1000000)])) else (none)) else (if x303001.length < 17592186044416 then (zH.l0 k 0 x31 (wrap64 (x32 + 1)) x299000 x299001 x300000 x300001 x303000 (x303001 ++ [wrap64 ((wrap64 ((rd x299001 x32) - t304)) - x6)])) else (none)))) else (none)) else (none)) else ((zM.f k x303000 x303001).bind fun bt311 => (some (bt311.1, bt311.2)))
def zH.f (k : Nat) (a0_0 : Bool) (l0_1 : List Int) (a1_0 : Bool) (l1_1 : List Int) : Option (Bool × List Int) := if (!(a0_0 == a1_0)) = true then ((qz.f k l0_1 l1_1).bind fun t301 => (if t301 < 0 then (zH.l0 k 0 (l1_1.length : Int) 0 a1_0 l1_1 a0_0 l0_1 a1_0 ([] : List Int)) else (none))) else (none)
def zH.T9 : Bool × List (List Nat × List Nat) := (true, [([], []), ([0], [0]), ([], []), ([1, 2], [1, 2]), ([3], [3]), ([], []), ([5], [5]), ([], []), ([6, 7], [6, 7]), ([4, 8], [4, 8]), ([], []), ([9, 10], [9, 10]), ([11, 8, 0, 1, 2, 3, 4, 5, 6, 7, 8, 9, 10, 11], [11])])
def zH.B9 : List Nat := [0, 1, 0, 7, 15, 0, 32, 0, 224, 511, 0, 2047, 4095]
theorem zH.tab9 : rtab .any (opsOf Tryz.f101 9) = zH.T9 := by kernel_rfl
theorem zH.qQh : yB zH.T9.2 zH.B9 = true := by kernel_rfl
theorem zH.calls (k : Nat) (a0_0 : Bool) (A0_1 : Option Addr) (c0_1 : Nat) (l0_1 : List Int) (a1_0 : Bool) (A1_1 : Option Addr) (c1_1 : Nat) (l1_1 : List Int) (r1 : Bool) (r2 : List Int) (w : World) (hr0_1 : Kd.C (Kd.int .i64) w A0_1 l0_1.length l0_1) (hc0_1 : l0_1.length ≤ c0_1) (hr1_1 : Kd.C (Kd.int .i64) w A1_1 l1_1.length l1_1) (hc1_1 : l1_1.length ≤ c1_1) (h : zH.f k a0_0 l0_1 a1_0 l1_1 = some (r1, r2)) :
  Calls Tryz.prog 101 #[.agg #[.bool a0_0, .slice A0_1 l0_1.length c0_1], .agg #[.bool a1_0, .slice A1_1 l1_1.length c1_1]] w fun e w' => ∃ v1_ : Value, e = .returned (.agg #[.bool r1, v1_]) ∧ Kd.V (Kd.int .i64) 3 w' w.heap.size (fun k_ => (w.heap.size ≤ k_)) v1_ r2 ∧ Below w.heap.size w w' := by
 have hu121 := Tryz.underlying121
 have HR0_1 := zQ.mk hr0_1
 have HC0_1 := zQ.mk hc0_1
 clear hr0_1 hc0_1
 have HR1_1 := zQ.mk hr1_1
 have HC1_1 := zQ.mk hc1_1
 clear hr1_1 hc1_1
 have HB := zQ.mk (Below.refl w.heap.size w)
 have H := h
 unfold zH.f at H
 clear h
 by_cases c3 : (!(a0_0 == a1_0)) = true
 ·rw [if_pos c3] at H
  have c3b0 : (!(a0_0 == a1_0)) = true := c3
  clear c3
  replace H := Option.bind_eq_some_iff.mp H
  obtain ⟨t301, A40, H⟩ := H
  try dsimp only at H
  have A4 := zQ.mk A40
  clear A40
  by_cases c5 : t301 < 0
  ·rw [if_pos c5] at H
   have c5b0 : decide (t301 < 0) = true := decide_eq_true c5
   clear c5
   have H' := zQ.mk H
   clear H
   go_enter Tryz.func101, Tryz.ntmps101
   go_wp2_with (first | ((with_reducible refine gD 2 rfl ?_); refine bx w 2 #[.bool a0_0, .slice A0_1 l0_1.length c0_1] 121 ?_; intro gb298 hg w6 hb BK298 GW298 GE298; clear HB; intro HB; clear hb hg) | ((with_reducible refine gD 3 rfl ?_); refine bx w 3 #[.bool a1_0, .slice A1_1 l1_1.length c1_1] 121 ?_; intro gb299 hg w7 hb BK299 GW299 GE299; clear HB; intro HB; have NB298_299 := nbl BK298 hg; have NB299_298 := nbr BK298 hg; replace BK298 := bb BK298 hb; clear hb hg) | ((with_reducible refine gD 4 rfl ?_); refine bx w 4 #[.bool false, .slice none 0 0] 121 ?_; intro gb300 hg w8 hb BK300 GW300 GE300; clear HB; intro HB; have NB298_300 := nbl BK298 hg; have NB300_298 := nbr BK298 hg; replace BK298 := bb BK298 hb; have NB299_300 := nbl BK299 hg; have NB300_299 := nbr BK299 hg; replace BK299 := bb BK299 hb; clear hb hg; have hnb9 := NB298_299.out; have hnc9 := NB299_298.out; have hnb10 := NB298_300.out; have hnc10 := NB300_298.out; obtain ⟨hcz11_0, hcz11_1, hfz11_0, hfz11_1⟩ := cz2 BK298; have hnb12 := NB299_300.out; have hnc12 := NB300_299.out; obtain ⟨hcz13_0, hcz13_1, hfz13_0, hfz13_1⟩ := cz2 BK299) | ((with_reducible refine gC 111 rfl ?_); refine gl_ 22 Tryz.func111 #[.slice A0_1 l0_1.length c0_1, .slice A1_1 l1_1.length c1_1] ?_; (with_reducible refine (qz.calls k _ _ l0_1 _ _ l1_1 t301 _ (zc HR0_1) HC0_1.out (zc HR1_1) HC1_1.out A4.out).mono ?_); rintro e w14 ⟨rfl, hb⟩; refine ⟨_, rfl, ?_⟩; replace BK298 := bb BK298 hb; replace BK299 := bb BK299 hb; replace BK300 := bb BK300 hb; replace HB := hs w hb; (try clear hb); obtain ⟨hcz15_0, hcz15_1, hfz15_0, hfz15_1⟩ := cz2 BK299; obtain ⟨hcz16_0, hcz16_1, hfz16_0, hfz16_1⟩ := cz2 BK298) | ((with_reducible refine gD 5 rfl ?_); refine bx w 5 #[.bool false, .slice none 0 0] 121 ?_; intro gb302 hg w17 hb BK302 GW302 GE302; clear HB; intro HB; have NB298_302 := zQ.mk ((by rw [hg]; exact Nat.ne_of_lt (xq (g := gb298) (o := .cells #[.bool a1_0, .slice A1_1 l1_1.length c1_1] 121 (0, 0)) (by (with_reducible repeat (first | refine zJ ?_ _ | refine zK ?_ | refine zZ ?_ _)); refine zF ?_ NB298_299.out _; (with_reducible repeat (first | refine zJ ?_ _ | refine zK ?_ | refine zZ ?_ _)); refine zF ?_ NB298_299.out _; (with_reducible repeat (first | refine zJ ?_ _ | refine zK ?_ | refine zZ ?_ _)); refine zL (cs := #[.bool a1_0, .slice A0_1 l0_1.length c0_1]) ?_ 1 _ rfl; (with_reducible repeat (first | refine zJ ?_ _ | refine zK ?_ | refine zZ ?_ _)); refine zL (cs := #[.bool a0_0, .slice A0_1 l0_1.length c0_1]) ?_ 0 _ rfl; exact zk BK298)) : gb298 ≠ gb302)); have NB302_298 := zQ.mk ((by rw [hg]; exact Nat.ne_of_gt (xq (g := gb298) (o := .cells #[.bool a1_0, .slice A1_1 l1_1.length c1_1] 121 (0, 0)) (by (with_reducible repeat (first | refine zJ ?_ _ | refine zK ?_ | refine zZ ?_ _)); refine zF ?_ NB298_299.out _; (with_reducible repeat (first | refine zJ ?_ _ | refine zK ?_ | refine zZ ?_ _)); refine zF ?_ NB298_299.out _; (with_reducible repeat (first | refine zJ ?_ _ | refine zK ?_ | refine zZ ?_ _)); refine zL (cs := #[.bool a1_0, .slice A0_1 l0_1.length c0_1]) ?_ 1 _ rfl; (with_reducible repeat (first | refine zJ ?_ _ | refine zK ?_ | refine zZ ?_ _)); refine zL (cs := #[.bool a0_0, .slice A0_1 l0_1.length c0_1]) ?_ 0 _ rfl; exact zk BK298)) : gb302 ≠ gb298)); replace BK298 := zQ.mk (qV (g := gb298) (o := .cells #[.bool a1_0, .slice A1_1 l1_1.length c1_1] 121 (0, 0)) (by (with_reducible repeat (first | refine zJ ?_ _ | refine zK ?_ | refine zZ ?_ _)); refine zF ?_ NB298_299.out _; (with_reducible repeat (first | refine zJ ?_ _ | refine zK ?_ | refine zZ ?_ _)); refine zF ?_ NB298_299.out _; (with_reducible repeat (first | refine zJ ?_ _ | refine zK ?_ | refine zZ ?_ _)); refine zL (cs := #[.bool a1_0, .slice A0_1 l0_1.length c0_1]) ?_ 1 _ rfl; (with_reducible repeat (first | refine zJ ?_ _ | refine zK ?_ | refine zZ ?_ _)); refine zL (cs := #[.bool a0_0, .slice A0_1 l0_1.length c0_1]) ?_ 0 _ rfl; exact zk BK298) hb); have NB299_302 := zQ.mk ((by rw [hg]; exact Nat.ne_of_lt (xq (g := gb299) (o := .cells #[.bool a0_0, .slice A0_1 l0_1.length c0_1] 121 (0, 0)) (by (with_reducible repeat (first | refine zJ ?_ _ | refine zK ?_ | refine zZ ?_ _)); refine zL (cs := #[.bool a0_0, .slice A1_1 l1_1.length c1_1]) ?_ 1 _ rfl; (with_reducible repeat (first | refine zJ ?_ _ | refine zK ?_ | refine zZ ?_ _)); refine zL (cs := #[.bool a1_0, .slice A1_1 l1_1.length c1_1]) ?_ 0 _ rfl; (with_reducible repeat (first | refine zJ ?_ _ | refine zK ?_ | refine zZ ?_ _)); refine zF ?_ NB299_298.out _; (with_reducible repeat (first | refine zJ ?_ _ | refine zK ?_ | refine zZ ?_ _)); refine zF ?_ NB299_298.out _; exact zk BK299)) : gb299 ≠ gb302)); have NB302_299 := zQ.mk ((by rw [hg]; exact Nat.ne_of_gt (xq (g := gb299) (o := .cells #[.bool a0_0, .slice A0_1 l0_1.length c0_1] 121 (0, 0)) (by (with_reducible repeat (first | refine zJ ?_ _ | refine zK ?_ | refine zZ ?_ _)); refine zL (cs := #[.bool a0_0, .slice A1_1 l1_1.length c1_1]) ?_ 1 _ rfl; (with_reducible repeat (first | refine zJ ?_ _ | refine zK ?_ | refine zZ ?_ _)); refine zL (cs := #[.bool a1_0, .slice A1_1 l1_1.length c1_1]) ?_ 0 _ rfl; (with_reducible repeat (first | refine zJ ?_ _ | refine zK ?_ | refine zZ ?_ _)); refine zF ?_ NB299_298.out _; (with_reducible repeat (first | refine zJ ?_ _ | refine zK ?_ | refine zZ ?_ _)); refine zF ?_ NB299_298.out _; exact zk BK299)) : gb302 ≠ gb299)); replace BK299 := zQ.mk (qV (g := gb299) (o := .cells #[.bool a0_0, .slice A0_1 l0_1.length c0_1] 121 (0, 0)) (by (with_reducible repeat (first | refine zJ ?_ _ | refine zK ?_ | refine zZ ?_ _)); refine zL (cs := #[.bool a0_0, .slice A1_1 l1_1.length c1_1]) ?_ 1 _ rfl; (with_reducible repeat (first | refine zJ ?_ _ | refine zK ?_ | refine zZ ?_ _)); refine zL (cs := #[.bool a1_0, .slice A1_1 l1_1.length c1_1]) ?_ 0 _ rfl; (with_reducible repeat (first | refine zJ ?_ _ | refine zK ?_ | refine zZ ?_ _)); refine zF ?_ NB299_298.out _; (with_reducible repeat (first | refine zJ ?_ _ | refine zK ?_ | refine zZ ?_ _)); refine zF ?_ NB299_298.out _; exact zk BK299) hb); have NB300_302 := zQ.mk ((by rw [hg]; exact Nat.ne_of_lt (xq (g := gb300) (o := .cells #[.bool false, .slice none 0 0] 121 (0, 0)) (by (with_reducible repeat (first | refine zJ ?_ _ | refine zK ?_ | refine zZ ?_ _)); refine zF ?_ NB300_299.out _; (with_reducible repeat (first | refine zJ ?_ _ | refine zK ?_ | refine zZ ?_ _)); refine zF ?_ NB300_299.out _; (with_reducible repeat (first | refine zJ ?_ _ | refine zK ?_ | refine zZ ?_ _)); refine zF ?_ NB300_298.out _; (with_reducible repeat (first | refine zJ ?_ _ | refine zK ?_ | refine zZ ?_ _)); refine zF ?_ NB300_298.out _; exact zk BK300)) : gb300 ≠ gb302)); have NB302_300 := zQ.mk ((by rw [hg]; exact Nat.ne_of_gt (xq (g := gb300) (o := .cells #[.bool false, .slice none 0 0] 121 (0, 0)) (by (with_reducible repeat (first | refine zJ ?_ _ | refine zK ?_ | refine zZ ?_ _)); refine zF ?_ NB300_299.out _; (with_reducible repeat (first | refine zJ ?_ _ | refine zK ?_ | refine zZ ?_ _)); refine zF ?_ NB300_299.out _; (with_reducible repeat (first | refine zJ ?_ _ | refine zK ?_ | refine zZ ?_ _)); refine zF ?_ NB300_298.out _; (with_reducible repeat (first | refine zJ ?_ _ | refine zK ?_ | refine zZ ?_ _)); refine zF ?_ NB300_298.out _; exact zk BK300)) : gb302 ≠ gb300)); replace BK300 := zQ.mk (qV (g := gb300) (o := .cells #[.bool false, .slice none 0 0] 121 (0, 0)) (by (with_reducible repeat (first | refine zJ ?_ _ | refine zK ?_ | refine zZ ?_ _)); refine zF ?_ NB300_299.out _; (with_reducible repeat (first | refine zJ ?_ _ | refine zK ?_ | refine zZ ?_ _)); refine zF ?_ NB300_299.out _; (with_reducible repeat (first | refine zJ ?_ _ | refine zK ?_ | refine zZ ?_ _)); refine zF ?_ NB300_298.out _; (with_reducible repeat (first | refine zJ ?_ _ | refine zK ?_ | refine zZ ?_ _)); refine zF ?_ NB300_298.out _; exact zk BK300) hb); clear hb hg; have hnb18 := NB302_298.out; have hnc18 := NB298_302.out; have hnb19 := NB302_299.out; have hnc19 := NB299_302.out; have hnb20 := NB302_300.out; have hnc20 := NB300_302.out; obtain ⟨hcz21_0, hcz21_1, hfz21_0, hfz21_1⟩ := cz2 BK302; obtain ⟨hcz22_0, hcz22_1, hfz22_0, hfz22_1⟩ := cz2 BK298))
   try simp only [sq]
   go_loopg [6, 32] k (fun kq v6 v32 w' => ∃ (x6_1 : Int) (x32_1 : Int) (x303001_1 : List Int) (u303001 : Value), v6 = .int .i64 x6_1 ∧ v32 = .int .i64 x32_1 ∧ zQ (zH.l0 kq x6_1 (l1_1.length : Int) x32_1 a1_0 l1_1 a0_0 l0_1 a1_0 x303001_1 = some (r1, r2)) ∧ zQ (kq ≤ k) ∧ zQ (Kd.R (Kd.int .i64) 3 w' w.heap.size (fun k_ => (w.heap.size ≤ k_)) u303001 x303001_1) ∧ zQ (w'.heap[gb298]? = some (.cells #[.bool a1_0, (.slice A1_1 l1_1.length c1_1)] 121 (0, 0))) ∧ zQ (w'.heap[gb299]? = some (.cells #[.bool a0_0, (.slice A0_1 l0_1.length c0_1)] 121 (0, 0))) ∧ zQ (w'.heap[gb300]? = some (.cells #[.bool false, (.slice none 0 0)] 121 (0, 0))) ∧ zQ (w'.heap[gb302]? = some (.cells #[.bool a1_0, u303001] 121 (0, 0))) ∧ zQ (Below w.heap.size w w'))
   case atStart => exact ⟨(0), (0), (([] : List Int)), (.slice none 0 0), ar, ar, H', ⟨Nat.le_refl _⟩, ⟨by first | exact Kd.kN _ _ _ _ _ | exact Kd.N_nil _ _ _ _ _ | exact Kd.qKb _ _ _ _ _ | exact Kd.Q_nil _ _ _ _ _ | exact Kd.S_nil _ _ _ _ _⟩, ⟨by (with_reducible repeat (first | refine zJ ?_ _ | refine zK ?_ | refine zZ ?_ _)); refine zF ?_ NB298_302.out _; (with_reducible repeat (first | refine zJ ?_ _ | refine zK ?_ | refine zZ ?_ _)); refine zF ?_ NB298_302.out _; exact zk BK298⟩, ⟨by (with_reducible repeat (first | refine zJ ?_ _ | refine zK ?_ | refine zZ ?_ _)); refine zF ?_ NB299_302.out _; (with_reducible repeat (first | refine zJ ?_ _ | refine zK ?_ | refine zZ ?_ _)); refine zF ?_ NB299_302.out _; exact zk BK299⟩, ⟨by (with_reducible repeat (first | refine zJ ?_ _ | refine zK ?_ | refine zZ ?_ _)); refine zF ?_ NB300_302.out _; (with_reducible repeat (first | refine zJ ?_ _ | refine zK ?_ | refine zZ ?_ _)); refine zF ?_ NB300_302.out _; exact zk BK300⟩, ⟨by (with_reducible repeat (first | refine zJ ?_ _ | refine zK ?_ | refine zZ ?_ _)); refine zL (cs := #[.bool a1_0, .slice none 0 0]) ?_ 1 _ rfl; (with_reducible repeat (first | refine zJ ?_ _ | refine zK ?_ | refine zZ ?_ _)); refine zL (cs := #[.bool false, .slice none 0 0]) ?_ 0 _ rfl; exact zk BK302⟩, ⟨(zb w)⟩⟩
   case round =>
    clear H'
    try clear c1
    try clear c2
    try clear p2
    try clear c3
    try clear c3b0
    try clear c5
    try clear c5b0
    try clear c9
    try clear c10
    try clear c11
    try clear c12
    try clear c18
    try clear c19
    try clear c20
    try clear hcz11_0 hcz11_1
    try clear hcz13_0 hcz13_1
    try clear hcz15_0 hcz15_1
    try clear hcz16_0 hcz16_1
    try clear hcz21_0 hcz21_1
    try clear hcz22_0 hcz22_1
    try clear hfz11_0 hfz11_1
    try clear hfz13_0 hfz13_1
    try clear hfz15_0 hfz15_1
    try clear hfz16_0 hfz16_1
    try clear hfz21_0 hfz21_1
    try clear hfz22_0 hfz22_1
    obtain ⟨x6_1, x32_1, x303001_1, u303001, rfl, rfl, HA, HK1, HO_303001, BK298, BK299, BK300, BK302, HB⟩ := hrel
    cases gk with
    | zero => exact absurd HA.out (by simp [zH.l0])
    | succ k1 =>
     have H := HA.out
     clear HA
     simp only [zH.l0] at H
     by_cases c23 : x32_1 < (l1_1.length : Int)
     ·rw [if_pos c23] at H
      have c23b0 : decide (x32_1 < (l1_1.length : Int)) = true := decide_eq_true c23
      clear c23
      by_cases c24 : 0 ≤ x32_1
      ·rw [if_pos c24] at H
       have c24b0 : decide (0 ≤ x32_1) = true := decide_eq_true c24
       clear c24
       by_cases c25 : x32_1 < (l1_1.length : Int)
       ·rw [if_pos c25] at H
        have c25b0 : decide (x32_1 < (l1_1.length : Int)) = true := decide_eq_true c25
        clear c25
        replace H := Option.bind_eq_some_iff.mp H
        obtain ⟨t304, A260, H⟩ := H
        try dsimp only at H
        have A26 := zQ.mk A260
        clear A260
        by_cases c27 : (wrap64 ((wrap64 ((rd l1_1 x32_1) - t304)) - x6_1)) < 0
        ·rw [if_pos c27] at H
         have c27b0 : decide ((wrap64 ((wrap64 ((rd l1_1 x32_1) - t304)) - x6_1)) < 0) = true := decide_eq_true c27
         clear c27
         by_cases c28 : x303001_1.length < 17592186044416
         ·rw [if_pos c28] at H
          have LMc28 := zQ.mk c28
          clear c28
          obtain ⟨y305, hy305⟩ : ∃ y_ : List Int, y_ = (x303001_1 ++ [wrap64 ((wrap64 ((wrap64 ((rd l1_1 x32_1) - t304)) - x6_1)) + 1000000)]) := ⟨_, rfl⟩
          replace H : (zH.l0 k1 1 (l1_1.length : Int) (wrap64 (x32_1 + 1)) a1_0 l1_1 a0_0 l0_1 a1_0 y305) = some (r1, r2) := by first | (rw [hy305]; with_reducible exact H) | (have H2_ := (Option.bind_some _ _).symm.trans H; rw [hy305]; with_reducible exact H2_) | (have H2_ := (Option.bind_some _ _).symm.trans H; with_reducible exact H2_) | with_reducible exact H | (rw [hy305]; exact H) | exact H
          have Ny305 := zQ.mk hy305
          clear hy305
          have H' := zQ.mk H
          clear H
          try go_wp2
          have n0_ := zQ.mk (Kd.xw HO_303001.out)
          have n1_ := zQ.mk (zK BK298.out)
          have n2_ := zQ.mk (zK BK299.out)
          have n3_ := zQ.mk (zK BK300.out)
          have n4_ := zQ.mk (zK BK302.out)
          have n5_ := zQ.mk (qD HB.out)
          clear HO_303001
          clear BK298
          clear BK299
          clear BK300
          clear BK302
          clear HB
          have HO_303001 := n0_
          have BK298 := n1_
          have BK299 := n2_
          have BK300 := n3_
          have BK302 := n4_
          have HB := n5_
          clear n0_ n1_ n2_ n3_ n4_ n5_
          have p303 : 0 ≤ (x32_1 : Int) := of_decide_eq_true (by assumption)
          have q303 : x32_1 < (l1_1.length : Int) := of_decide_eq_true (by assumption)
          obtain ⟨ad303, e303, hx303_0⟩ := Kd.jy HR1_1.out x32_1 p303 q303
          have hw303_0 := hx303_0
          cases e303
          replace hx303_0 := hz HB hx303_0
          replace p303 := eq_true p303
          replace q303 := eq_true q303
          refine uH (n := 13) (S := fun w' => w'.cell? ⟨gb298, 0, none⟩ = some (.bool a1_0) ∧ w'.cell? ⟨gb298, 1, none⟩ = some (.slice (some ad303) l1_1.length c1_1) ∧ w'.cell? ⟨gb299, 0, none⟩ = some (.bool a0_0) ∧ w'.cell? ⟨gb299, 1, none⟩ = some (.slice A0_1 l0_1.length c0_1) ∧ w'.cell? (ad303.add (x32_1).toNat) = some (.int .i64 (rd l1_1 x32_1))) (ds := []) (bm 13 0) (by kernel_rfl) rfl rfl ⟨(zx BK298.out 0).trans rfl, (zx BK298.out 1).trans rfl, (zx BK299.out 0).trans rfl, (zx BK299.out 1).trans rfl, ((HB.out.cell (World.block_lt_of_cell? w _ hw303_0)).trans hw303_0)⟩ (fun hHeld => ?_); refine vF zH.tab9 zH.qQh (fun HT_ HW_ => ?_)
          generalize wr.drew = w29 at HO_303001 BK298 BK299 BK300 BK302 HB hx303_0 hHeld ⊢
          refine pu 0 35 (bm 13 1) HT_ ?_
          refine pu 2 37 (bm 13 5) HT_ ?_
          refine pu 5 40 (bm 13 37) HT_ ?_
          refine pu 7 42 (bm 13 165) HT_ ?_
          refine pu 10 45 (bm 13 1189) HT_ ?_
          refine ta5 1 36 (bm 13 1191) HT_ HW_ hHeld ?_
          refine pu 3 38 (bm 13 1199) HT_ ?_
          refine ta5 4 39 (bm 13 1215) HT_ HW_ hHeld ?_
          refine ta5 6 41 (bm 13 1279) HT_ HW_ hHeld ?_
          refine one_ (i := 8) (N := some 43) (bm 13 1535) rfl rfl (yN HT_.out (by kernel_rfl)) (by decide) (fun K hK => ?_)
          refine gs Tryz.func112 #[.slice A0_1 l0_1.length c0_1, .int .i64 x32_1] ?_
          with_reducible refine (qw.calls _ _ l0_1 x32_1 t304 _ (zc HR0_1) HC0_1.out A26.out).mono ?_
          rintro e w30 ⟨rfl, hb⟩
          refine ⟨_, rfl, ?_⟩
          have n0_ := rb HO_303001 hb
          have n1_ := bb BK298 hb
          have n2_ := bb BK299 hb
          have n3_ := bb BK300 hb
          have n4_ := bb BK302 hb
          have n5_ := hs w hb
          clear HO_303001
          clear BK298
          clear BK299
          clear BK300
          clear BK302
          clear HB
          have HO_303001 := n0_
          have BK298 := n1_
          have BK299 := n2_
          have BK300 := n3_
          have BK302 := n4_
          have HB := n5_
          clear n0_ n1_ n2_ n3_ n4_ n5_
          (try clear hb)
          (try clear hb2)
          (try clear hk)
          (try clear hi)
          refine hK.out _ _ ⟨(zx BK298.out 0).trans rfl, (zx BK298.out 1).trans rfl, (zx BK299.out 0).trans rfl, (zx BK299.out 1).trans rfl, ((HB.out.cell (World.block_lt_of_cell? w _ hw303_0)).trans hw303_0)⟩ (fun hHeld => ?_)
          clear hK K
          refine uG (a' := ?_) ?_ ?_
          rotate_left
          ·show Act.put _ (some 43) _ = _
           simp only [sq, jw, vL]
           rfl
          refine pu 9 44 (bm 13 2047) HT_ ?_
          refine pu 11 46 (bm 13 4095) HT_ ?_
          refine pu 12 8 (bm 13 8191) HT_ ?_
          refine zQh (uq HT_.out (by kernel_rfl)) ?_
          have hnb31 := NB302_298.out
          have hnc31 := NB298_302.out
          have hnb32 := NB302_299.out
          have hnc32 := NB299_302.out
          have hnb33 := NB302_300.out
          have hnc33 := NB300_302.out
          obtain ⟨hcz34_0, hcz34_1, hfz34_0, hfz34_1⟩ := cz2 BK302
          try go_wp2_with (first | ((with_reducible refine jR (b := .append) (xs := #[.tmp 52, .tmp 54]) rfl ?_); at_builtin; refine Kd.vJ (Kd.int .i64) (w0 := w) w.heap.size rfl (.tmp 52) (.tmp 54) 39 3 (.int .i64 0) 8 rfl Tryz.underlying39 info3 rfl (by decide) (by omega) u303001 x303001_1 (wrap64 ((wrap64 ((wrap64 ((rd l1_1 x32_1) - t304)) - x6_1)) + 1000000)) [.int .i64 (wrap64 ((wrap64 ((wrap64 ((rd l1_1 x32_1) - t304)) - x6_1)) + 1000000))] (fun k_ => (w.heap.size ≤ k_)) (fun _ => False) rfl rfl ?aP (fun _ hk => hk.elim) ?aF ?aO ?aB ?aS ?aL ?_; (case aP => exact rfl); (case aB => exact (zb w)); (case aF => exact (fun k_ hk => (Nat.le_trans (zy (zb w)) hk))); (case aO => exact (zo HO_303001)); (case aS => exact (zy (zb w))); (case aL => have := LMc28.out; omega); intro v306 w35 ho hb hg hat; rw [← Ny305.out] at ho; replace BK298 := zQ.mk (qR (g := gb298) (o := .cells #[.bool a1_0, .slice (some ad303) l1_1.length c1_1] 121 (0, 0)) (zk BK298) hg (Kd.R_ne HO_303001.out BK298.out (by decide))); replace BK299 := zQ.mk (qR (g := gb299) (o := .cells #[.bool a0_0, .slice A0_1 l0_1.length c0_1] 121 (0, 0)) (zk BK299) hg (Kd.R_ne HO_303001.out BK299.out (by decide))); replace BK300 := zQ.mk (qR (g := gb300) (o := .cells #[.bool false, .slice none 0 0] 121 (0, 0)) (zk BK300) hg (Kd.R_ne HO_303001.out BK300.out (by decide))); replace BK302 := zQ.mk (qR (g := gb302) (o := .cells #[.bool a1_0, u303001] 121 (0, 0)) (zk BK302) hg (Kd.R_ne HO_303001.out BK302.out (by decide))); replace HB := zQ.mk (hb); have HO307 := zQ.mk (ho); clear HO_303001; clear ho hb hg hat; obtain ⟨Ao36, co36, eo36⟩ := Kd.xx HO307.out; subst eo36; obtain ⟨hcz37_0, hcz37_1, hfz37_0, hfz37_1⟩ := cz2 BK302))
          go_roundg k1
          case measure => have := HK1.out; omega
          case rel => exact ⟨(1), (wrap64 (x32_1 + 1)), (y305), (.slice Ao36 y305.length co36), ar, ar, H', ⟨by have := HK1.out; omega⟩, ⟨by (with_reducible repeat (first | apply Kd.xU | apply Kd.xS | apply Kd.xw)); exact Kd.vw (Kd.zZd (p := ⟨gb302, 1, none⟩) (Kd.zB HO307.out BK302.out (by decide)) (fun _ hk => hk.2) (.slice Ao36 y305.length co36)) (fun _ hk => hk.1)⟩, ⟨by (with_reducible repeat (first | refine zJ ?_ _ | refine zK ?_ | refine zZ ?_ _)); refine zF ?_ NB298_302.out _; exact zk BK298⟩, ⟨by (with_reducible repeat (first | refine zJ ?_ _ | refine zK ?_ | refine zZ ?_ _)); refine zF ?_ NB299_302.out _; exact zk BK299⟩, ⟨by (with_reducible repeat (first | refine zJ ?_ _ | refine zK ?_ | refine zZ ?_ _)); refine zF ?_ NB300_302.out _; exact zk BK300⟩, ⟨by (with_reducible repeat (first | refine zJ ?_ _ | refine zK ?_ | refine zZ ?_ _)); refine zL (cs := #[.bool a1_0, u303001]) ?_ 1 _ rfl; exact zk BK302⟩, ⟨(zb w)⟩⟩
         ·rw [if_neg c28] at H
          exact absurd H (by simp)
        ·rw [if_neg c27] at H
         have c27b0 : decide ((wrap64 ((wrap64 ((rd l1_1 x32_1) - t304)) - x6_1)) < 0) = false := decide_eq_false c27
         clear c27
         by_cases c38 : x303001_1.length < 17592186044416
         ·rw [if_pos c38] at H
          have LMc38 := zQ.mk c38
          clear c38
          obtain ⟨y308, hy308⟩ : ∃ y_ : List Int, y_ = (x303001_1 ++ [wrap64 ((wrap64 ((rd l1_1 x32_1) - t304)) - x6_1)]) := ⟨_, rfl⟩
          replace H : (zH.l0 k1 0 (l1_1.length : Int) (wrap64 (x32_1 + 1)) a1_0 l1_1 a0_0 l0_1 a1_0 y308) = some (r1, r2) := by first | (rw [hy308]; with_reducible exact H) | (have H2_ := (Option.bind_some _ _).symm.trans H; rw [hy308]; with_reducible exact H2_) | (have H2_ := (Option.bind_some _ _).symm.trans H; with_reducible exact H2_) | with_reducible exact H | (rw [hy308]; exact H) | exact H
          have Ny308 := zQ.mk hy308
          clear hy308
          have H' := zQ.mk H
          clear H
          try go_wp2
          have n0_ := zQ.mk (Kd.xw HO_303001.out)
          have n1_ := zQ.mk (zK BK298.out)
          have n2_ := zQ.mk (zK BK299.out)
          have n3_ := zQ.mk (zK BK300.out)
          have n4_ := zQ.mk (zK BK302.out)
          have n5_ := zQ.mk (qD HB.out)
          clear HO_303001
          clear BK298
          clear BK299
          clear BK300
          clear BK302
          clear HB
          have HO_303001 := n0_
          have BK298 := n1_
          have BK299 := n2_
          have BK300 := n3_
          have BK302 := n4_
          have HB := n5_
          clear n0_ n1_ n2_ n3_ n4_ n5_
          have p303 : 0 ≤ (x32_1 : Int) := of_decide_eq_true (by assumption)
          have q303 : x32_1 < (l1_1.length : Int) := of_decide_eq_true (by assumption)
          obtain ⟨ad303, e303, hx303_0⟩ := Kd.jy HR1_1.out x32_1 p303 q303
          have hw303_0 := hx303_0
          cases e303
          replace hx303_0 := hz HB hx303_0
          replace p303 := eq_true p303
          replace q303 := eq_true q303
          refine uH (n := 13) (S := fun w' => w'.cell? ⟨gb298, 0, none⟩ = some (.bool a1_0) ∧ w'.cell? ⟨gb298, 1, none⟩ = some (.slice (some ad303) l1_1.length c1_1) ∧ w'.cell? ⟨gb299, 0, none⟩ = some (.bool a0_0) ∧ w'.cell? ⟨gb299, 1, none⟩ = some (.slice A0_1 l0_1.length c0_1) ∧ w'.cell? (ad303.add (x32_1).toNat) = some (.int .i64 (rd l1_1 x32_1))) (ds := []) (bm 13 0) (by kernel_rfl) rfl rfl ⟨(zx BK298.out 0).trans rfl, (zx BK298.out 1).trans rfl, (zx BK299.out 0).trans rfl, (zx BK299.out 1).trans rfl, ((HB.out.cell (World.block_lt_of_cell? w _ hw303_0)).trans hw303_0)⟩ (fun hHeld => ?_); refine vF zH.tab9 zH.qQh (fun HT_ HW_ => ?_)
          generalize wr.drew = w39 at HO_303001 BK298 BK299 BK300 BK302 HB hx303_0 hHeld ⊢
          refine pu 0 35 (bm 13 1) HT_ ?_
          refine pu 2 37 (bm 13 5) HT_ ?_
          refine pu 5 40 (bm 13 37) HT_ ?_
          refine pu 7 42 (bm 13 165) HT_ ?_
          refine pu 10 45 (bm 13 1189) HT_ ?_
          refine ta5 1 36 (bm 13 1191) HT_ HW_ hHeld ?_
          refine pu 3 38 (bm 13 1199) HT_ ?_
          refine ta5 4 39 (bm 13 1215) HT_ HW_ hHeld ?_
          refine ta5 6 41 (bm 13 1279) HT_ HW_ hHeld ?_
          refine one_ (i := 8) (N := some 43) (bm 13 1535) rfl rfl (yN HT_.out (by kernel_rfl)) (by decide) (fun K hK => ?_)
          refine gs Tryz.func112 #[.slice A0_1 l0_1.length c0_1, .int .i64 x32_1] ?_
          with_reducible refine (qw.calls _ _ l0_1 x32_1 t304 _ (zc HR0_1) HC0_1.out A26.out).mono ?_
          rintro e w40 ⟨rfl, hb⟩
          refine ⟨_, rfl, ?_⟩
          have n0_ := rb HO_303001 hb
          have n1_ := bb BK298 hb
          have n2_ := bb BK299 hb
          have n3_ := bb BK300 hb
          have n4_ := bb BK302 hb
          have n5_ := hs w hb
          clear HO_303001
          clear BK298
          clear BK299
          clear BK300
          clear BK302
          clear HB
          have HO_303001 := n0_
          have BK298 := n1_
          have BK299 := n2_
          have BK300 := n3_
          have BK302 := n4_
          have HB := n5_
          clear n0_ n1_ n2_ n3_ n4_ n5_
          (try clear hb)
          (try clear hb2)
          (try clear hk)
          (try clear hi)
          refine hK.out _ _ ⟨(zx BK298.out 0).trans rfl, (zx BK298.out 1).trans rfl, (zx BK299.out 0).trans rfl, (zx BK299.out 1).trans rfl, ((HB.out.cell (World.block_lt_of_cell? w _ hw303_0)).trans hw303_0)⟩ (fun hHeld => ?_)
          clear hK K
          refine uG (a' := ?_) ?_ ?_
          rotate_left
          ·show Act.put _ (some 43) _ = _
           simp only [sq, jw, vL]
           rfl
          refine pu 9 44 (bm 13 2047) HT_ ?_
          refine pu 11 46 (bm 13 4095) HT_ ?_
          refine pu 12 8 (bm 13 8191) HT_ ?_
          refine zQh (uq HT_.out (by kernel_rfl)) ?_
          have hnb41 := NB302_298.out
          have hnc41 := NB298_302.out
          have hnb42 := NB302_299.out
          have hnc42 := NB299_302.out
          have hnb43 := NB302_300.out
          have hnc43 := NB300_302.out
          obtain ⟨hcz44_0, hcz44_1, hfz44_0, hfz44_1⟩ := cz2 BK302
          try go_wp2_with (first | ((with_reducible refine jR (b := .append) (xs := #[.tmp 52, .tmp 54]) rfl ?_); at_builtin; refine Kd.vJ (Kd.int .i64) (w0 := w) w.heap.size rfl (.tmp 52) (.tmp 54) 39 3 (.int .i64 0) 8 rfl Tryz.underlying39 info3 rfl (by decide) (by omega) u303001 x303001_1 (wrap64 ((wrap64 ((rd l1_1 x32_1) - t304)) - x6_1)) [.int .i64 (wrap64 ((wrap64 ((rd l1_1 x32_1) - t304)) - x6_1))] (fun k_ => (w.heap.size ≤ k_)) (fun _ => False) rfl rfl ?aP (fun _ hk => hk.elim) ?aF ?aO ?aB ?aS ?aL ?_; (case aP => exact rfl); (case aB => exact (zb w)); (case aF => exact (fun k_ hk => (Nat.le_trans (zy (zb w)) hk))); (case aO => exact (zo HO_303001)); (case aS => exact (zy (zb w))); (case aL => have := LMc38.out; omega); intro v309 w45 ho hb hg hat; rw [← Ny308.out] at ho; replace BK298 := zQ.mk (qR (g := gb298) (o := .cells #[.bool a1_0, .slice (some ad303) l1_1.length c1_1] 121 (0, 0)) (zk BK298) hg (Kd.R_ne HO_303001.out BK298.out (by decide))); replace BK299 := zQ.mk (qR (g := gb299) (o := .cells #[.bool a0_0, .slice A0_1 l0_1.length c0_1] 121 (0, 0)) (zk BK299) hg (Kd.R_ne HO_303001.out BK299.out (by decide))); replace BK300 := zQ.mk (qR (g := gb300) (o := .cells #[.bool false, .slice none 0 0] 121 (0, 0)) (zk BK300) hg (Kd.R_ne HO_303001.out BK300.out (by decide))); replace BK302 := zQ.mk (qR (g := gb302) (o := .cells #[.bool a1_0, u303001] 121 (0, 0)) (zk BK302) hg (Kd.R_ne HO_303001.out BK302.out (by decide))); replace HB := zQ.mk (hb); have HO310 := zQ.mk (ho); clear HO_303001; clear ho hb hg hat; obtain ⟨Ao46, co46, eo46⟩ := Kd.xx HO310.out; subst eo46; obtain ⟨hcz47_0, hcz47_1, hfz47_0, hfz47_1⟩ := cz2 BK302))
          go_roundg k1
          case measure => have := HK1.out; omega
          case rel => exact ⟨(0), (wrap64 (x32_1 + 1)), (y308), (.slice Ao46 y308.length co46), ar, ar, H', ⟨by have := HK1.out; omega⟩, ⟨by (with_reducible repeat (first | apply Kd.xU | apply Kd.xS | apply Kd.xw)); exact Kd.vw (Kd.zZd (p := ⟨gb302, 1, none⟩) (Kd.zB HO310.out BK302.out (by decide)) (fun _ hk => hk.2) (.slice Ao46 y308.length co46)) (fun _ hk => hk.1)⟩, ⟨by (with_reducible repeat (first | refine zJ ?_ _ | refine zK ?_ | refine zZ ?_ _)); refine zF ?_ NB298_302.out _; exact zk BK298⟩, ⟨by (with_reducible repeat (first | refine zJ ?_ _ | refine zK ?_ | refine zZ ?_ _)); refine zF ?_ NB299_302.out _; exact zk BK299⟩, ⟨by (with_reducible repeat (first | refine zJ ?_ _ | refine zK ?_ | refine zZ ?_ _)); refine zF ?_ NB300_302.out _; exact zk BK300⟩, ⟨by (with_reducible repeat (first | refine zJ ?_ _ | refine zK ?_ | refine zZ ?_ _)); refine zL (cs := #[.bool a1_0, u303001]) ?_ 1 _ rfl; exact zk BK302⟩, ⟨(zb w)⟩⟩
         ·rw [if_neg c38] at H
          exact absurd H (by simp)
       ·rw [if_neg c25] at H
        exact absurd H (by simp)
      ·rw [if_neg c24] at H
       exact absurd H (by simp)
     ·rw [if_neg c23] at H
      have c23b0 : decide (x32_1 < (l1_1.length : Int)) = false := decide_eq_false c23
      clear c23
      replace H := Option.bind_eq_some_iff.mp H
      obtain ⟨⟨t311, t312⟩, A480, H⟩ := H
      try dsimp only at H
      have A48 := zQ.mk A480
      clear A480
      simp only [Option.some.injEq, Prod.mk.injEq] at H
      obtain ⟨rfl, rfl⟩ := H
      have hnb49 := NB302_298.out
      have hnc49 := NB298_302.out
      have hnb50 := NB302_299.out
      have hnc50 := NB299_302.out
      have hnb51 := NB302_300.out
      have hnc51 := NB300_302.out
      obtain ⟨hcz52_0, hcz52_1, hfz52_0, hfz52_1⟩ := cz2 BK302
      obtain ⟨Ao53, co53, eo53⟩ := Kd.xx HO_303001.out
      subst eo53
      go_wp2_with (first | ((with_reducible refine gC 113 rfl ?_); refine gl_ 59 Tryz.func113 #[.agg #[.bool a1_0, .slice Ao53 x303001_1.length co53]] ?_; (with_reducible refine (zM.calls k1 a1_0 (fun k_ => some k_ = (.slice Ao53 x303001_1.length co53 : Value).ownBlock) _ _ x303001_1 t311 t312 _ ?side1 A48.out).mono ?_); (case side1 => exact Kd.R_V (Kd.uU rfl (Kd.zB (Kd.zB (Kd.zB (Kd.zB (HO_303001.out) BK298.out (by decide)) BK299.out (by decide)) BK300.out (by decide)) BK302.out (by decide)))); rintro e w54 ⟨v313, rfl, ho0, hb⟩; refine ⟨_, rfl, ?_⟩; have HO314 := zQ.mk (Kd.xJ (Kd.zR (ok' := fun k_ => (w.heap.size ≤ k_) ∧ k_ ≠ gb298 ∧ k_ ≠ gb299 ∧ k_ ≠ gb300 ∧ k_ ≠ gb302) ho0 (fun k_ hk_ => ⟨Or.elim hk_ (fun hs_ => ((Kd.zB (Kd.zB (Kd.zB (Kd.zB (HO_303001.out) BK298.out (by decide)) BK299.out (by decide)) BK300.out (by decide)) BK302.out (by decide)).1 k_ hs_.symm).1.1.1.1) (fun hn_ => (Nat.le_trans (zy (zb w)) hn_)), Or.elim hk_ (fun hs_ => ((Kd.zB (Kd.zB (Kd.zB (Kd.zB (HO_303001.out) BK298.out (by decide)) BK299.out (by decide)) BK300.out (by decide)) BK302.out (by decide)).1 k_ hs_.symm).1.1.1.2) (fun hn_ => (Kd.qH (g := gb298) (o := .cells #[.bool a1_0, .slice A1_1 l1_1.length c1_1] 121 (0, 0)) (zk BK298) k_ hn_)), Or.elim hk_ (fun hs_ => ((Kd.zB (Kd.zB (Kd.zB (Kd.zB (HO_303001.out) BK298.out (by decide)) BK299.out (by decide)) BK300.out (by decide)) BK302.out (by decide)).1 k_ hs_.symm).1.1.2) (fun hn_ => (Kd.qH (g := gb299) (o := .cells #[.bool a0_0, .slice A0_1 l0_1.length c0_1] 121 (0, 0)) (zk BK299) k_ hn_)), Or.elim hk_ (fun hs_ => ((Kd.zB (Kd.zB (Kd.zB (Kd.zB (HO_303001.out) BK298.out (by decide)) BK299.out (by decide)) BK300.out (by decide)) BK302.out (by decide)).1 k_ hs_.symm).1.2) (fun hn_ => (Kd.qH (g := gb300) (o := .cells #[.bool false, .slice none 0 0] 121 (0, 0)) (zk BK300) k_ hn_)), Or.elim hk_ (fun hs_ => ((Kd.zB (Kd.zB (Kd.zB (Kd.zB (HO_303001.out) BK298.out (by decide)) BK299.out (by decide)) BK300.out (by decide)) BK302.out (by decide)).1 k_ hs_.symm).2) (fun hn_ => (Kd.qH (g := gb302) (o := .cells #[.bool a1_0, .slice Ao53 x303001_1.length co53] 121 (0, 0)) (zk BK302) k_ hn_))⟩)) (zy (zb w))); replace HO_303001 := rb HO_303001 hb; replace BK298 := bb BK298 hb; replace BK299 := bb BK299 hb; replace BK300 := bb BK300 hb; replace BK302 := bb BK302 hb; replace HB := hs w hb; (try clear hb); (try clear ho0); have hnb55 := NB300_298.out; have hnc55 := NB298_300.out; have hnb56 := NB300_299.out; have hnc56 := NB299_300.out; obtain ⟨hcz57_0, hcz57_1, hfz57_0, hfz57_1⟩ := cz2 BK300; obtain ⟨Ao58, co58, eo58⟩ := Kd.jW HO314.out; subst eo58))
      refine bodyPost_ret (results_cell_row rfl _ _ gb300 121 #[.bool t311, .slice Ao58 t312.length co58] (0, 0) _ rfl (by (with_reducible repeat (first | refine zJ ?_ _ | refine zK ?_ | refine zZ ?_ _)); refine zL (cs := #[.bool t311, .slice none 0 0]) ?_ 1 _ rfl; (with_reducible repeat (first | refine zJ ?_ _ | refine zK ?_ | refine zZ ?_ _)); refine zL (cs := #[.bool false, .slice none 0 0]) ?_ 0 _ rfl; exact zk BK300) Tryz.underlying121 rfl (by kernel_rfl)) rfl ?_
      exact ⟨_, by first | rfl | (simp [zq, zY] <;> rfl) | (simp [*, zq, zY] <;> rfl), by (with_reducible repeat (first | apply Kd.V_alloc | apply Kd.V_drewN | apply Kd.zT)); exact Kd.zR (Kd.qL (p := ⟨gb300, 1, none⟩) (Kd.qL (p := ⟨gb300, 0, none⟩) (Kd.zR HO314.out (fun k_ hk => (⟨hk, hk.2.2.2.1⟩ : _ ∧ k_ ≠ gb300))) (fun _ hk => hk.2) (.bool t311)) (fun _ hk => hk.2) (.slice Ao58 t312.length co58)) (fun _ hk => hk.1.1), (zb w)⟩
  ·rw [if_neg c5] at H
   exact absurd H (by simp)
 ·rw [if_neg c3] at H
  exact absurd H (by simp)
def xZ.f (k : Nat) (a0_0 : Bool) (l0_1 : List Int) (a1_0 : Bool) (l1_1 : List Int) : Option (Bool × List Int) := if (!(a0_0 == a1_0)) = true then ((qz.f k l0_1 l1_1).bind fun t => if t < 0 then zH.f k a0_0 l0_1 a1_0 l1_1 else zw.f k a0_0 l0_1 a1_0 l1_1) else zw.f k a0_0 l0_1 a1_0 l1_1
theorem xZ.calls (k : Nat) (a0_0 : Bool) (A0_1 : Option Addr) (c0_1 : Nat) (l0_1 : List Int) (a1_0 : Bool) (A1_1 : Option Addr) (c1_1 : Nat) (l1_1 : List Int) (r1 : Bool) (r2 : List Int) (w : World) (hr0_1 : Kd.C (Kd.int .i64) w A0_1 l0_1.length l0_1) (hc0_1 : l0_1.length ≤ c0_1) (hr1_1 : Kd.C (Kd.int .i64) w A1_1 l1_1.length l1_1) (hc1_1 : l1_1.length ≤ c1_1) (h : xZ.f k a0_0 l0_1 a1_0 l1_1 = some (r1, r2)) :
  Calls Tryz.prog 101 #[.agg #[.bool a0_0, .slice A0_1 l0_1.length c0_1], .agg #[.bool a1_0, .slice A1_1 l1_1.length c1_1]] w fun e w' => ∃ v1_ : Value, e = .returned (.agg #[.bool r1, v1_]) ∧ Kd.V (Kd.int .i64) 3 w' w.heap.size (fun k_ => (w.heap.size ≤ k_)) v1_ r2 ∧ Below w.heap.size w w' := by
 unfold xZ.f at h
 split at h
 ·obtain ⟨t, _, h⟩ := Option.bind_eq_some_iff.mp h
  split at h
  ·exact zH.calls k a0_0 A0_1 c0_1 l0_1 a1_0 A1_1 c1_1 l1_1 r1 r2 w hr0_1 hc0_1 hr1_1 hc1_1 h
  ·exact zw.calls k a0_0 A0_1 c0_1 l0_1 a1_0 A1_1 c1_1 l1_1 r1 r2 w hr0_1 hc0_1 hr1_1 hc1_1 h
 ·exact zw.calls k a0_0 A0_1 c0_1 l0_1 a1_0 A1_1 c1_1 l1_1 r1 r2 w hr0_1 hc0_1 hr1_1 hc1_1 h
def jN.f (a0_0 : Bool) (l0_1 : List Int) : Option (Bool × List Int) := if (l0_1.length : Int) > 0 then (some (!a0_0, l0_1)) else (some (a0_0, l0_1))
theorem jN.calls (a0_0 : Bool) (P0_1_ : Nat → Prop) (A0_1 : Option Addr) (c0_1 : Nat) (l0_1 : List Int) (r1 : Bool) (r2 : List Int) (w : World) (hs0_1 : Kd.V (Kd.int .i64) 3 w w.heap.size (fun k_ => P0_1_ k_) (.slice A0_1 l0_1.length c0_1) l0_1) (h : jN.f a0_0 l0_1 = some (r1, r2)) :
  Calls Tryz.prog 102 #[.agg #[.bool a0_0, .slice A0_1 l0_1.length c0_1]] w fun e w' => ∃ v1_ : Value, e = .returned (.agg #[.bool r1, v1_]) ∧ Kd.V (Kd.int .i64) 3 w' w.heap.size (fun k_ => (P0_1_ k_ ∨ w.heap.size ≤ k_)) v1_ r2 ∧ Below w.heap.size w w' := by
 have hu121 := Tryz.underlying121
 have HO0_1 := zQ.mk (show Kd.V (Kd.int .i64) 3 w w.heap.size (fun k_ => (P0_1_ k_ ∨ w.heap.size ≤ k_)) (.slice A0_1 l0_1.length c0_1) l0_1 from Kd.zR hs0_1 (fun k_ hk => .inl hk))
 have HB := zQ.mk (Below.refl w.heap.size w)
 have H := h
 unfold jN.f at H
 clear h
 by_cases c2 : (l0_1.length : Int) > 0
 ·rw [if_pos c2] at H
  have c2b0 : decide (0 < (l0_1.length : Int)) = true := decide_eq_true c2
  have c2b1 : decide (0 < l0_1.length) = true := decide_eq_true (by omega)
  clear c2
  simp only [Option.some.injEq, Prod.mk.injEq] at H
  obtain ⟨rfl, rfl⟩ := H
  go_enter Tryz.func102, Tryz.ntmps102
  go_wp2_with (first | ((with_reducible refine gD 1 rfl ?_); refine jU ?hg (N := 1) ?hd (cs := #[.bool a0_0, .slice A0_1 l0_1.length c0_1]) (t := 121) ?hr ?_; (case hd => rfl); (case hg => rfl); (case hr => first | (go_simp; done) | (go_simp; rfl)); intro gb315 hg w3 hbox hb; replace HO0_1 := zQ.mk (Kd.qJ (Kd.jK (by (with_reducible repeat (first | apply Kd.V_alloc | apply Kd.V_drewN | apply Kd.zT)); exact HO0_1.out) gb315 (Nat.le_of_eq hg.symm)) hb); have BK315 := zQ.mk (hbox); have GW315 := zQ.mk ((by rw [hg]; exact (zy (zb w)) : w.heap.size ≤ gb315)); have GE315 := zQ.mk ((by rw [hg]; exact (zy (zb w)) : w.heap.size ≤ gb315)); replace HB := hs w hb; clear hb hg) | ((with_reducible refine gD 2 rfl ?_); refine jU ?hg (N := 2) ?hd (cs := #[.bool false, .slice none 0 0]) (t := 121) ?hr ?_; (case hd => rfl); (case hg => rfl); (case hr => first | (go_simp; done) | (go_simp; rfl)); intro gb316 hg w4 hbox hb; replace HO0_1 := zQ.mk (Kd.qJ (Kd.jK (by (with_reducible repeat (first | apply Kd.V_alloc | apply Kd.V_drewN | apply Kd.zT)); exact HO0_1.out) gb316 (Nat.le_of_eq hg.symm)) hb); have BK316 := zQ.mk (hbox); have GW316 := zQ.mk ((by rw [hg]; exact (zy (zb w)) : w.heap.size ≤ gb316)); have GE316 := zQ.mk ((by rw [hg]; exact (zy (zb w)) : w.heap.size ≤ gb316)); replace HB := hs w hb; have NB315_316 := nbl BK315 hg; have NB316_315 := nbr BK315 hg; replace BK315 := bb BK315 hb; clear hb hg; have hnb5 := NB315_316.out; have hnc5 := NB316_315.out; obtain ⟨hcz6_0, hcz6_1, hfz6_0, hfz6_1⟩ := cz2 BK315; obtain ⟨hcz7_0, hcz7_1, hfz7_0, hfz7_1⟩ := cz2 BK316))
  refine bodyPost_ret (results_cell_row rfl _ _ gb316 121 #[.bool (!a0_0), .slice A0_1 l0_1.length c0_1] (0, 0) _ rfl (by (with_reducible repeat (first | refine zJ ?_ _ | refine zK ?_ | refine zZ ?_ _)); refine zL (cs := #[.bool (!a0_0), .slice none 0 0]) ?_ 1 _ rfl; (with_reducible repeat (first | refine zJ ?_ _ | refine zK ?_ | refine zZ ?_ _)); refine zL (cs := #[.bool false, .slice none 0 0]) ?_ 0 _ rfl; (with_reducible repeat (first | refine zJ ?_ _ | refine zK ?_ | refine zZ ?_ _)); refine zF ?_ NB316_315.out _; exact zk BK316) Tryz.underlying121 rfl (by kernel_rfl)) rfl ?_
  exact ⟨_, by first | rfl | (simp [zq, zY] <;> rfl) | (simp [*, zq, zY] <;> rfl), by (with_reducible repeat (first | apply Kd.V_alloc | apply Kd.V_drewN | apply Kd.zT)); exact Kd.zR (Kd.qL (p := ⟨gb316, 1, none⟩) (Kd.qL (p := ⟨gb316, 0, none⟩) (Kd.qL (p := ⟨gb315, 0, none⟩) (Kd.zR (Kd.zR HO0_1.out (fun k_ hk => (⟨hk, hk.1.2⟩ : _ ∧ k_ ≠ gb315))) (fun k_ hk => (⟨hk, hk.1.2⟩ : _ ∧ k_ ≠ gb316))) (fun _ hk => hk.1.2) (.bool (!a0_0))) (fun _ hk => hk.2) (.bool (!a0_0))) (fun _ hk => hk.2) (.slice A0_1 l0_1.length c0_1)) (fun _ hk => hk.1.1.1.1), (zb w)⟩
 ·rw [if_neg c2] at H
  have c2b0 : decide (0 < (l0_1.length : Int)) = false := decide_eq_false c2
  have c2b1 : decide (0 < l0_1.length) = false := decide_eq_false (by omega)
  clear c2
  simp only [Option.some.injEq, Prod.mk.injEq] at H
  obtain ⟨rfl, rfl⟩ := H
  go_enter Tryz.func102, Tryz.ntmps102
  go_wp2_with (first | ((with_reducible refine gD 1 rfl ?_); refine jU ?hg (N := 1) ?hd (cs := #[.bool a0_0, .slice A0_1 l0_1.length c0_1]) (t := 121) ?hr ?_; (case hd => rfl); (case hg => rfl); (case hr => first | (go_simp; done) | (go_simp; rfl)); intro gb315 hg w8 hbox hb; replace HO0_1 := zQ.mk (Kd.qJ (Kd.jK (by (with_reducible repeat (first | apply Kd.V_alloc | apply Kd.V_drewN | apply Kd.zT)); exact HO0_1.out) gb315 (Nat.le_of_eq hg.symm)) hb); have BK315 := zQ.mk (hbox); have GW315 := zQ.mk ((by rw [hg]; exact (zy (zb w)) : w.heap.size ≤ gb315)); have GE315 := zQ.mk ((by rw [hg]; exact (zy (zb w)) : w.heap.size ≤ gb315)); replace HB := hs w hb; clear hb hg) | ((with_reducible refine gD 2 rfl ?_); refine jU ?hg (N := 2) ?hd (cs := #[.bool false, .slice none 0 0]) (t := 121) ?hr ?_; (case hd => rfl); (case hg => rfl); (case hr => first | (go_simp; done) | (go_simp; rfl)); intro gb316 hg w9 hbox hb; replace HO0_1 := zQ.mk (Kd.qJ (Kd.jK (by (with_reducible repeat (first | apply Kd.V_alloc | apply Kd.V_drewN | apply Kd.zT)); exact HO0_1.out) gb316 (Nat.le_of_eq hg.symm)) hb); have BK316 := zQ.mk (hbox); have GW316 := zQ.mk ((by rw [hg]; exact (zy (zb w)) : w.heap.size ≤ gb316)); have GE316 := zQ.mk ((by rw [hg]; exact (zy (zb w)) : w.heap.size ≤ gb316)); replace HB := hs w hb; have NB315_316 := nbl BK315 hg; have NB316_315 := nbr BK315 hg; replace BK315 := bb BK315 hb; clear hb hg; have hnb10 := NB315_316.out; have hnc10 := NB316_315.out; obtain ⟨hcz11_0, hcz11_1, hfz11_0, hfz11_1⟩ := cz2 BK315; obtain ⟨hcz12_0, hcz12_1, hfz12_0, hfz12_1⟩ := cz2 BK316))
  refine bodyPost_ret (results_cell_row rfl _ _ gb316 121 #[.bool a0_0, .slice A0_1 l0_1.length c0_1] (0, 0) _ rfl (by (with_reducible repeat (first | refine zJ ?_ _ | refine zK ?_ | refine zZ ?_ _)); refine zL (cs := #[.bool a0_0, .slice none 0 0]) ?_ 1 _ rfl; (with_reducible repeat (first | refine zJ ?_ _ | refine zK ?_ | refine zZ ?_ _)); refine zL (cs := #[.bool false, .slice none 0 0]) ?_ 0 _ rfl; exact zk BK316) Tryz.underlying121 rfl (by kernel_rfl)) rfl ?_
  exact ⟨_, by first | rfl | (simp [zq, zY] <;> rfl) | (simp [*, zq, zY] <;> rfl), by (with_reducible repeat (first | apply Kd.V_alloc | apply Kd.V_drewN | apply Kd.zT)); exact Kd.zR (Kd.qL (p := ⟨gb316, 1, none⟩) (Kd.qL (p := ⟨gb316, 0, none⟩) (Kd.zR HO0_1.out (fun k_ hk => (⟨hk, hk.2⟩ : _ ∧ k_ ≠ gb316))) (fun _ hk => hk.2) (.bool a0_0)) (fun _ hk => hk.2) (.slice A0_1 l0_1.length c0_1)) (fun _ hk => hk.1.1.1), (zb w)⟩
def xz.f (k : Nat) (a0_0 : Bool) (l0_1 : List Int) (a1_0 : Bool) (l1_1 : List Int) : Option (Int) := (jN.f a1_0 l1_1).bind fun bt319 => ((xZ.f k a0_0 l0_1 bt319.1 bt319.2).bind fun bt323 => ((xQ.f bt323.1 bt323.2).bind fun t327 => (some t327)))
theorem xz.calls (k : Nat) (a0_0 : Bool) (A0_1 : Option Addr) (c0_1 : Nat) (l0_1 : List Int) (a1_0 : Bool) (A1_1 : Option Addr) (c1_1 : Nat) (l1_1 : List Int) (r : Int) (w : World) (hr0_1 : Kd.C (Kd.int .i64) w A0_1 l0_1.length l0_1) (hc0_1 : l0_1.length ≤ c0_1) (hr1_1 : Kd.C (Kd.int .i64) w A1_1 l1_1.length l1_1) (hc1_1 : l1_1.length ≤ c1_1) (h : xz.f k a0_0 l0_1 a1_0 l1_1 = some r) :
  Calls Tryz.prog 86 #[.agg #[.bool a0_0, .slice A0_1 l0_1.length c0_1], .agg #[.bool a1_0, .slice A1_1 l1_1.length c1_1]] w fun e w' => e = .returned (.int .i64 r) ∧ Below w.heap.size w w' := by
 have hu121 := Tryz.underlying121
 have HR0_1 := zQ.mk hr0_1
 have HC0_1 := zQ.mk hc0_1
 clear hr0_1 hc0_1
 have HR1_1 := zQ.mk hr1_1
 have HC1_1 := zQ.mk hc1_1
 clear hr1_1 hc1_1
 have HB := zQ.mk (Below.refl w.heap.size w)
 have H := h
 unfold xz.f at H
 clear h
 replace H := Option.bind_eq_some_iff.mp H
 obtain ⟨⟨t319, t320⟩, A30, H⟩ := H
 try dsimp only at H
 have A3 := zQ.mk A30
 clear A30
 replace H := Option.bind_eq_some_iff.mp H
 obtain ⟨⟨t323, t324⟩, A40, H⟩ := H
 try dsimp only at H
 have A4 := zQ.mk A40
 clear A40
 replace H := Option.bind_eq_some_iff.mp H
 obtain ⟨t327, A50, H⟩ := H
 try dsimp only at H
 have A5 := zQ.mk A50
 clear A50
 obtain rfl := Option.some.inj H
 go_enter Tryz.func86, Tryz.ntmps86
 try go_wp2_with (first | ((with_reducible refine gD 2 rfl ?_); refine bx w 2 #[.bool a0_0, .slice A0_1 l0_1.length c0_1] 121 ?_; intro gb317 hg w6 hb BK317 GW317 GE317; clear HB; intro HB; clear hb hg) | ((with_reducible refine gD 3 rfl ?_); refine bx w 3 #[.bool a1_0, .slice A1_1 l1_1.length c1_1] 121 ?_; intro gb318 hg w7 hb BK318 GW318 GE318; clear HB; intro HB; have NB317_318 := nbl BK317 hg; have NB318_317 := nbr BK317 hg; replace BK317 := bb BK317 hb; clear hb hg))
 have n0_ := zQ.mk (zK BK317.out)
 have n1_ := zQ.mk (zK BK318.out)
 have n2_ := zQ.mk (qD HB.out)
 clear BK317
 clear BK318
 clear HB
 have BK317 := n0_
 have BK318 := n1_
 have HB := n2_
 clear n0_ n1_ n2_
 refine uH (n := 6) (S := fun w' => w'.cell? ⟨gb317, 0, none⟩ = some (.bool a0_0) ∧ w'.cell? ⟨gb317, 1, none⟩ = some (.slice A0_1 l0_1.length c0_1) ∧ w'.cell? ⟨gb318, 0, none⟩ = some (.bool a1_0) ∧ w'.cell? ⟨gb318, 1, none⟩ = some (.slice A1_1 l1_1.length c1_1)) (ds := []) (bm 6 0) (by kernel_rfl) rfl rfl ⟨(zx BK317.out 0).trans rfl, (zx BK317.out 1).trans rfl, (zx BK318.out 0).trans rfl, (zx BK318.out 1).trans rfl⟩ (fun hHeld => ?_)
 generalize w7.drew = w8 at BK317 BK318 HB hHeld ⊢
 refine zKm (i := 0) (N := some 5) (v := ?_) (a' := ?_) (bm 6 1) rfl rfl (by kernel_rfl) (fun _ _ _ h => h) (Or.inl ⟨by rfl, ?_⟩) hHeld ?_ ?_
 rotate_left
 ·rintro w' ⟨s0, s1, s2, s3⟩
  go_simp
  with_reducible rfl
 rotate_left
 ·simp only [sq, jw, vL]
  rfl
 refine zKm (i := 1) (N := some 6) (v := ?_) (a' := ?_) (bm 6 3) rfl rfl (by kernel_rfl) (fun _ _ _ h => h) (Or.inl ⟨by rfl, ?_⟩) hHeld ?_ ?_
 rotate_left
 ·rintro w' ⟨s0, s1, s2, s3⟩
  go_simp
  with_reducible rfl
 rotate_left
 ·simp only [sq, jw, vL]
  rfl
 refine one_ (i := 2) (N := some 7) (bm 6 7) rfl rfl (by kernel_rfl) (by decide) (fun K hK => ?_)
 refine gs Tryz.func102 #[.agg #[.bool a1_0, .slice A1_1 l1_1.length c1_1]] ?_
 with_reducible refine (jN.calls a1_0 (fun k_ => k_ < w.heap.size) _ _ l1_1 t319 t320 _ ?side1 A3.out).mono ?_
 (case side1 => exact Kd.V_mk HC1_1.out (Kd.qZj (Kd.C_F (Kd.heap_int .i64) HR1_1.out) (zb w)))
 rintro e w9 ⟨v321, rfl, ho0, hb⟩
 refine ⟨_, rfl, ?_⟩
 have n0_ := zQ.mk (Kd.xJ (Kd.zR (ok' := fun k_ => k_ ≠ gb317 ∧ k_ ≠ gb318) ho0 (fun k_ hk_ => ⟨Or.elim hk_ (fun hs_ => fun e_ => Nat.not_le.2 hs_ (by rw [e_]; exact GW317.out)) (fun hn_ => (Kd.qH (g := gb317) (o := .cells #[.bool a0_0, .slice A0_1 l0_1.length c0_1] 121 (0, 0)) (zk BK317) k_ hn_)), Or.elim hk_ (fun hs_ => fun e_ => Nat.not_le.2 hs_ (by rw [e_]; exact GW318.out)) (fun hn_ => (Kd.qH (g := gb318) (o := .cells #[.bool a1_0, .slice A1_1 l1_1.length c1_1] 121 (0, 0)) (zk BK318) k_ hn_))⟩)) (zy (zb w)))
 have n1_ := bb BK317 hb
 have n2_ := bb BK318 hb
 have n3_ := hs w hb
 clear BK317
 clear BK318
 clear HB
 have HO322 := n0_
 have BK317 := n1_
 have BK318 := n2_
 have HB := n3_
 clear n0_ n1_ n2_ n3_
 (try clear hb)
 (try clear hb2)
 (try clear hk)
 (try clear hi)
 (try clear ho0)
 obtain ⟨Ao10, co10, eo10⟩ := Kd.jW HO322.out
 (first | subst eo10 | (injection eo10 with f1_ f2_ f3_; have f4_ := f1_.symm; have f5_ := f3_.symm; clear f1_ f2_ f3_; subst f4_; subst f5_))
 refine hK.out _ _ ⟨(zx BK317.out 0).trans rfl, (zx BK317.out 1).trans rfl, (zx BK318.out 0).trans rfl, (zx BK318.out 1).trans rfl⟩ (fun hHeld => ?_)
 clear hK K
 refine uG (a' := ?_) ?_ ?_
 rotate_left
 ·show Act.put _ (some 7) _ = _
  simp only [sq, jw, vL]
  rfl
 refine one_ (i := 3) (N := some 8) (bm 6 15) rfl rfl (by kernel_rfl) (by decide) (fun K hK => ?_)
 refine gs Tryz.func101 #[.agg #[.bool a0_0, .slice A0_1 l0_1.length c0_1], .agg #[.bool t319, .slice Ao10 t320.length co10]] ?_
 with_reducible refine (xZ.calls k a0_0 _ _ l0_1 t319 _ _ t320 t323 t324 _ (zc HR0_1) HC0_1.out ?side3 ?side4 A4.out).mono ?_
 (case side3 => repeat (first | exact (Kd.qC HO322.out).2.2 | (with_reducible refine Kd.xK ?_ _) | (with_reducible refine Kd.xW ?_ _) | (with_reducible refine Kd.vK ?_)))
 (case side4 => exact (Kd.qC HO322.out).2.1)
 rintro e w11 ⟨v325, rfl, ho0, hb⟩
 refine ⟨_, rfl, ?_⟩
 have n0_ := zQ.mk (Kd.qJ (by (with_reducible repeat (first | apply Kd.V_alloc | apply Kd.V_drewN | apply Kd.zT)); exact HO322.out) hb)
 have n1_ := zQ.mk (Kd.xJ (Kd.zR (ok' := fun k_ => k_ ≠ gb317 ∧ k_ ≠ gb318) ho0 (fun k_ hk_ => ⟨(Kd.qH (g := gb317) (o := .cells #[.bool a0_0, .slice A0_1 l0_1.length c0_1] 121 (0, 0)) (zk BK317) k_ hk_), (Kd.qH (g := gb318) (o := .cells #[.bool a1_0, .slice A1_1 l1_1.length c1_1] 121 (0, 0)) (zk BK318) k_ hk_)⟩)) (zy (zb w)))
 have n2_ := bb BK317 hb
 have n3_ := bb BK318 hb
 have n4_ := hs w hb
 clear HO322
 clear BK317
 clear BK318
 clear HB
 have HO322 := n0_
 have HO326 := n1_
 have BK317 := n2_
 have BK318 := n3_
 have HB := n4_
 clear n0_ n1_ n2_ n3_ n4_
 (try clear hb)
 (try clear hb2)
 (try clear hk)
 (try clear hi)
 (try clear ho0)
 obtain ⟨Ao12, co12, eo12⟩ := Kd.jW HO326.out
 (first | subst eo12 | (injection eo12 with f1_ f2_ f3_; have f4_ := f1_.symm; have f5_ := f3_.symm; clear f1_ f2_ f3_; subst f4_; subst f5_))
 refine hK.out _ _ ⟨(zx BK317.out 0).trans rfl, (zx BK317.out 1).trans rfl, (zx BK318.out 0).trans rfl, (zx BK318.out 1).trans rfl⟩ (fun hHeld => ?_)
 clear hK K
 refine uG (a' := ?_) ?_ ?_
 rotate_left
 ·show Act.put _ (some 8) _ = _
  simp only [sq, jw, vL]
  rfl
 refine one_ (i := 4) (N := some 9) (bm 6 31) rfl rfl (by kernel_rfl) (by decide) (fun K hK => ?_)
 refine gs Tryz.func100 #[.agg #[.bool t323, .slice Ao12 t324.length co12]] ?_
 with_reducible refine (xQ.calls t323 _ _ t324 t327 _ ?side1 ?side2 A5.out).mono ?_
 (case side1 => repeat (first | exact (Kd.qC HO326.out).2.2 | (with_reducible refine Kd.xK ?_ _) | (with_reducible refine Kd.xW ?_ _) | (with_reducible refine Kd.vK ?_)))
 (case side2 => exact (Kd.qC HO326.out).2.1)
 rintro e w13 ⟨rfl, hb⟩
 refine ⟨_, rfl, ?_⟩
 have n0_ := zQ.mk (Kd.qJ (by (with_reducible repeat (first | apply Kd.V_alloc | apply Kd.V_drewN | apply Kd.zT)); exact HO322.out) hb)
 have n1_ := zQ.mk (Kd.qJ (by (with_reducible repeat (first | apply Kd.V_alloc | apply Kd.V_drewN | apply Kd.zT)); exact HO326.out) hb)
 have n2_ := bb BK317 hb
 have n3_ := bb BK318 hb
 have n4_ := hs w hb
 clear HO322
 clear HO326
 clear BK317
 clear BK318
 clear HB
 have HO322 := n0_
 have HO326 := n1_
 have BK317 := n2_
 have BK318 := n3_
 have HB := n4_
 clear n0_ n1_ n2_ n3_ n4_
 (try clear hb)
 (try clear hb2)
 (try clear hk)
 (try clear hi)
 refine hK.out _ _ ⟨(zx BK317.out 0).trans rfl, (zx BK317.out 1).trans rfl, (zx BK318.out 0).trans rfl, (zx BK318.out 1).trans rfl⟩ (fun hHeld => ?_)
 clear hK K
 refine uG (a' := ?_) ?_ ?_
 rotate_left
 ·show Act.put _ (some 9) _ = _
  simp only [sq, jw, vL]
  rfl
 refine pure_ (i := 5) (N := some 4) (v := ?_) (a' := ?_) (bm 6 63) rfl rfl (by kernel_rfl) (fun _ _ _ h => h) (Or.inl ⟨by rfl, ?_⟩) ?_ ?_
 rotate_left
 ·intro w'
  go_simp
  with_reducible rfl
 rotate_left
 ·simp only [sq, jw, vL]
  rfl
 refine zQh (by kernel_rfl) ?_
 try go_wp2
 go_ret
 exact ⟨by first | rfl | (simp [zq, zY] <;> rfl) | (simp [*, zq, zY] <;> rfl), (zb w)⟩
def jD.l0 : Nat → Int → Int → Int → Option (Int)
 | 0, _, _, _ => none
 | k + 1, x3, x4, x5 => if x5 < x4 then (jD.l0 k (wrap64 (x3 * 10)) x4 (wrap64 (x5 + 1))) else (some x3)
def jD.f (k : Nat) (a0 : Int) : Option (Int) := jD.l0 k 1 a0 0
theorem jD.calls (k : Nat) (a0 : Int) (r : Int) (w : World) (h : jD.f k a0 = some r) :
  Calls Tryz.prog 65 #[.int .i64 a0] w fun e w' => e = .returned (.int .i64 r) ∧ vS w w' := by
 have H := h
 unfold jD.f at H
 clear h
 have H' := zQ.mk H
 clear H
 go_enter Tryz.func65, Tryz.ntmps65
 go_wp2
 try simp only [sq]
 go_loopg [3, 5] k (fun kq v3 v5 w' => ∃ (x3_1 : Int) (x5_1 : Int), v3 = .int .i64 x3_1 ∧ v5 = .int .i64 x5_1 ∧ zQ (jD.l0 kq x3_1 a0 x5_1 = some r) ∧ zQ (kq ≤ k) ∧ vS w w')
 case atStart => exact ⟨(1), (0), ar, ar, H', ⟨Nat.le_refl _⟩, dr⟩
 case round =>
  clear H'
  obtain ⟨x3_1, x5_1, rfl, rfl, HA, HK1, ⟨m1, rfl⟩⟩ := hrel
  cases gk with
  | zero => exact absurd HA.out (by simp [jD.l0])
  | succ k1 =>
   have H := HA.out
   clear HA
   simp only [jD.l0] at H
   by_cases c2 : x5_1 < a0
   ·rw [if_pos c2] at H
    have c2b0 : decide (x5_1 < a0) = true := decide_eq_true c2
    clear c2
    have H' := zQ.mk H
    clear H
    go_wp2
    go_roundg k1
    case measure => have := HK1.out; omega
    case rel => exact ⟨(wrap64 (x3_1 * 10)), (wrap64 (x5_1 + 1)), ar, ar, H', ⟨by have := HK1.out; omega⟩, dr⟩
   ·rw [if_neg c2] at H
    have c2b0 : decide (x5_1 < a0) = false := decide_eq_false c2
    clear c2
    obtain rfl := Option.some.inj H
    go_wp2
    go_ret
    exact ⟨ar, dr⟩
def xD.f (k : Nat) (a0_0 : Int) (a0_1 : Int) : Option (Int) := (jD.f k (wrap64 (4 - a0_1))).bind fun t329 => (some (wrap64 (a0_0 * t329)))
theorem xD.calls (k : Nat) (a0_0 : Int) (a0_1 : Int) (r : Int) (w : World) (h : xD.f k a0_0 a0_1 = some r) :
  Calls Tryz.prog 43 #[.agg #[.int .i64 a0_0, .int .i64 a0_1]] w fun e w' => e = .returned (.int .i64 r) ∧ Below w.heap.size w w' := by
 have hu33 := Tryz.underlying33
 have HB := zQ.mk (Below.refl w.heap.size w)
 have H := h
 unfold xD.f at H
 clear h
 replace H := Option.bind_eq_some_iff.mp H
 obtain ⟨t329, A20, H⟩ := H
 try dsimp only at H
 have A2 := zQ.mk A20
 clear A20
 obtain rfl := Option.some.inj H
 go_enter Tryz.func43, Tryz.ntmps43
 go_wp2_with (first | ((with_reducible refine gD 1 rfl ?_); refine bx w 1 #[.int .i64 a0_0, .int .i64 a0_1] 33 ?_; intro gb328 hg w3 hb BK328 GW328 GE328; clear HB; intro HB; clear hb hg; obtain ⟨hcz4_0, hcz4_1, hfz4_0, hfz4_1⟩ := cz2 BK328) | (go_at_call 65; (with_reducible refine (jD.calls k (wrap64 (4 - a0_1)) t329 _ A2.out).mono ?_); rintro e w' ⟨rfl, ⟨nd, rfl⟩⟩; (try first | exact ⟨rfl, _, World.drewN_drewN _ _ _⟩ | exact ⟨rfl, _, Eq.trans (World.drewN_drewN _ _ _) (congrArg (World.drewN _) (Nat.add_assoc _ _ _))⟩)))
 repeat (go_quiet (first | ((with_reducible refine gD 1 rfl ?_); refine bx w 1 #[.int .i64 a0_0, .int .i64 a0_1] 33 ?_; intro gb328 hg w3 hb BK328 GW328 GE328; clear HB; intro HB; clear hb hg; obtain ⟨hcz4_0, hcz4_1, hfz4_0, hfz4_1⟩ := cz2 BK328) | (go_at_call 65; (with_reducible refine (jD.calls k (wrap64 (4 - a0_1)) t329 _ A2.out).mono ?_); rintro e w' ⟨rfl, ⟨nd, rfl⟩⟩; (try first | exact ⟨rfl, _, World.drewN_drewN _ _ _⟩ | exact ⟨rfl, _, Eq.trans (World.drewN_drewN _ _ _) (congrArg (World.drewN _) (Nat.add_assoc _ _ _))⟩))); try go_wp2_with (first | ((with_reducible refine gD 1 rfl ?_); refine bx w 1 #[.int .i64 a0_0, .int .i64 a0_1] 33 ?_; intro gb328 hg w3 hb BK328 GW328 GE328; clear HB; intro HB; clear hb hg; obtain ⟨hcz4_0, hcz4_1, hfz4_0, hfz4_1⟩ := cz2 BK328) | (go_at_call 65; (with_reducible refine (jD.calls k (wrap64 (4 - a0_1)) t329 _ A2.out).mono ?_); rintro e w' ⟨rfl, ⟨nd, rfl⟩⟩; (try first | exact ⟨rfl, _, World.drewN_drewN _ _ _⟩ | exact ⟨rfl, _, Eq.trans (World.drewN_drewN _ _ _) (congrArg (World.drewN _) (Nat.add_assoc _ _ _))⟩))))
 go_ret
 exact ⟨by first | rfl | (simp [zq, zY] <;> rfl) | (simp [*, zq, zY] <;> rfl), (zb w)⟩
def yX.f (a0 : ByteArray) (a1 : ByteArray) : Option (ByteArray) := if a0.size ≤ 9223372036854775807 ∧ a1.size < 4294967281 ∧ (a1.data.toList.all fun b => decide (b.toNat < 128)) = true then some ⟨(Lib.trimS a0.data.toList a1.data.toList).toArray⟩ else none
theorem yX.calls (a0 : ByteArray) (a1 : ByteArray) (r : ByteArray) (w : World) (h : yX.f a0 a1 = some r) :
  Calls Tryz.prog 53 #[.string a0, .string a1] w fun e w' => e = .returned (.string r) ∧ Below w.heap.size w w' := by
 unfold yX.f at h
 split at h
 ·rename_i hc
  injection h with h
  subst h
  exact Any.strings_Trim_laid Tryz.l160 (by kernel_rfl) a0 a1 w hc.1 hc.2.1 (fun j b hb => by
   have h1 := List.all_eq_true.1 hc.2.2 b (List.mem_of_getElem? hb)
   simpa using h1)
 ·cases h
def jV.f (a0 : ByteArray) : Option (Bool) := if (a0.size : Int) < 1 then (some false) else (if (a0.size : Int) > 40 then (some false) else (if 0 < (a0.size : Int) then (if (bt a0 0) < 97 then (some false) else (if (bt a0 0) > 122 then (some false) else ((yX.f a0 (⟨#[97, 98, 99, 100, 101, 102, 103, 104, 105, 106, 107, 108, 109, 110, 111, 112, 113, 114, 115, 116, 117, 118, 119, 120, 121, 122, 48, 49, 50, 51, 52, 53, 54, 55, 56, 57, 45]⟩ : ByteArray)).bind fun t330 => (some (t330.toList == ([] : List UInt8)))))) else (none)))
theorem jV.calls (a0 : ByteArray) (r : Bool) (w : World) (h : jV.f a0 = some r) :
  Calls Tryz.prog 29 #[.string a0] w fun e w' => e = .returned (.bool r) ∧ Below w.heap.size w w' := by
 have HB := zQ.mk (Below.refl w.heap.size w)
 have H := h
 unfold jV.f at H
 clear h
 by_cases c2 : (a0.size : Int) < 1
 ·rw [if_pos c2] at H
  have c2b0 : decide ((a0.size : Int) < 1) = true := decide_eq_true c2
  have c2b1 : decide (a0.size < 1) = true := decide_eq_true (by omega)
  clear c2
  obtain rfl := Option.some.inj H
  go_enter Tryz.func29, Tryz.ntmps29
  go_wp2
  go_ret
  exact ⟨by first | rfl | (simp [zq, zY] <;> rfl) | (simp [*, zq, zY] <;> rfl), (zb w)⟩
 ·rw [if_neg c2] at H
  have c2b0 : decide ((a0.size : Int) < 1) = false := decide_eq_false c2
  have c2b1 : decide (a0.size < 1) = false := decide_eq_false (by omega)
  clear c2
  by_cases c3 : (a0.size : Int) > 40
  ·rw [if_pos c3] at H
   have c3b0 : decide (40 < (a0.size : Int)) = true := decide_eq_true c3
   have c3b1 : decide (40 < a0.size) = true := decide_eq_true (by omega)
   clear c3
   obtain rfl := Option.some.inj H
   go_enter Tryz.func29, Tryz.ntmps29
   go_wp2
   go_ret
   exact ⟨by first | rfl | (simp [zq, zY] <;> rfl) | (simp [*, zq, zY] <;> rfl), (zb w)⟩
  ·rw [if_neg c3] at H
   have c3b0 : decide (40 < (a0.size : Int)) = false := decide_eq_false c3
   have c3b1 : decide (40 < a0.size) = false := decide_eq_false (by omega)
   clear c3
   by_cases c4 : 0 < (a0.size : Int)
   ·rw [if_pos c4] at H
    have c4b0 : decide (0 < (a0.size : Int)) = true := decide_eq_true c4
    have c4b1 : decide (0 < a0.size) = true := decide_eq_true (by omega)
    clear c4
    by_cases c6 : (bt a0 0) < 97
    ·rw [if_pos c6] at H
     have c6b0 : decide ((bt a0 0) < 97) = true := decide_eq_true c6
     clear c6
     obtain rfl := Option.some.inj H
     have p5 : 0 ≤ (0 : Int) := (by omega)
     have q5 : 0 < a0.size := (by have : (0 : Int) < (a0.size : Int) := of_decide_eq_true (by assumption); omega)
     have hx5 : ∀ h : 0 < a0.size, ((a0[0]'h).toNat : Int) = bt a0 0 := kM a0 0
     clear p5
     have qi5 : (0 < (a0.size : Int)) = True := eq_true (of_decide_eq_true (by assumption))
     replace q5 := eq_true q5
     go_enter Tryz.func29, Tryz.ntmps29
     go_wp2
     go_ret
     exact ⟨by first | rfl | (simp [zq, zY] <;> rfl) | (simp [*, zq, zY] <;> rfl), (zb w)⟩
    ·rw [if_neg c6] at H
     have c6b0 : decide ((bt a0 0) < 97) = false := decide_eq_false c6
     clear c6
     by_cases c8 : (bt a0 0) > 122
     ·rw [if_pos c8] at H
      have c8b0 : decide (122 < (bt a0 0)) = true := decide_eq_true c8
      clear c8
      obtain rfl := Option.some.inj H
      have p5 : 0 ≤ (0 : Int) := (by omega)
      have q5 : 0 < a0.size := (by have : (0 : Int) < (a0.size : Int) := of_decide_eq_true (by assumption); omega)
      have hx5 : ∀ h : 0 < a0.size, ((a0[0]'h).toNat : Int) = bt a0 0 := kM a0 0
      clear p5
      have qi5 : (0 < (a0.size : Int)) = True := eq_true (of_decide_eq_true (by assumption))
      replace q5 := eq_true q5
      have p7 : 0 ≤ (0 : Int) := (by omega)
      have q7 : 0 < a0.size := (by have : (0 : Int) < (a0.size : Int) := of_decide_eq_true (by assumption); omega)
      have hx7 : ∀ h : 0 < a0.size, ((a0[0]'h).toNat : Int) = bt a0 0 := kM a0 0
      clear p7
      have qi7 : (0 < (a0.size : Int)) = True := eq_true (of_decide_eq_true (by assumption))
      replace q7 := eq_true q7
      go_enter Tryz.func29, Tryz.ntmps29
      go_wp2
      go_ret
      exact ⟨by first | rfl | (simp [zq, zY] <;> rfl) | (simp [*, zq, zY] <;> rfl), (zb w)⟩
     ·rw [if_neg c8] at H
      have c8b0 : decide (122 < (bt a0 0)) = false := decide_eq_false c8
      clear c8
      replace H := Option.bind_eq_some_iff.mp H
      obtain ⟨t330, A90, H⟩ := H
      try dsimp only at H
      have A9 := zQ.mk A90
      clear A90
      obtain rfl := Option.some.inj H
      have p5 : 0 ≤ (0 : Int) := (by omega)
      have q5 : 0 < a0.size := (by have : (0 : Int) < (a0.size : Int) := of_decide_eq_true (by assumption); omega)
      have hx5 : ∀ h : 0 < a0.size, ((a0[0]'h).toNat : Int) = bt a0 0 := kM a0 0
      clear p5
      have qi5 : (0 < (a0.size : Int)) = True := eq_true (of_decide_eq_true (by assumption))
      replace q5 := eq_true q5
      have p7 : 0 ≤ (0 : Int) := (by omega)
      have q7 : 0 < a0.size := (by have : (0 : Int) < (a0.size : Int) := of_decide_eq_true (by assumption); omega)
      have hx7 : ∀ h : 0 < a0.size, ((a0[0]'h).toNat : Int) = bt a0 0 := kM a0 0
      clear p7
      have qi7 : (0 < (a0.size : Int)) = True := eq_true (of_decide_eq_true (by assumption))
      replace q7 := eq_true q7
      go_enter Tryz.func29, Tryz.ntmps29
      go_wp2_with (first | ((with_reducible refine gC 53 rfl ?_); refine gl_ 22 Tryz.func53 #[.string a0, .string (⟨#[97, 98, 99, 100, 101, 102, 103, 104, 105, 106, 107, 108, 109, 110, 111, 112, 113, 114, 115, 116, 117, 118, 119, 120, 121, 122, 48, 49, 50, 51, 52, 53, 54, 55, 56, 57, 45]⟩ : ByteArray)] ?_; (with_reducible refine (yX.calls a0 (⟨#[97, 98, 99, 100, 101, 102, 103, 104, 105, 106, 107, 108, 109, 110, 111, 112, 113, 114, 115, 116, 117, 118, 119, 120, 121, 122, 48, 49, 50, 51, 52, 53, 54, 55, 56, 57, 45]⟩ : ByteArray) t330 _ A9.out).mono ?_); rintro e w10 ⟨rfl, hb⟩; refine ⟨_, rfl, ?_⟩; replace HB := hs w hb; (try clear hb)))
      go_ret
      exact ⟨by first | rfl | (simp [zq, zY] <;> rfl) | (simp [*, zq, zY] <;> rfl), (zb w)⟩
   ·rw [if_neg c4] at H
    exact absurd H (by simp)
def jZ.f (a0 : Int) (a1 : Int) (a2 : Int) : Option (Bool) := if a0 < a1 then (some true) else (some (decide (a0 > a2)))
theorem jZ.calls (a0 : Int) (a1 : Int) (a2 : Int) (r : Bool) (w : World) (h : jZ.f a0 a1 a2 = some r) :
  Calls Tryz.prog 34 #[.int .i64 a0, .int .i64 a1, .int .i64 a2] w fun e w' => e = .returned (.bool r) ∧ vS w w' := by
 have H := h
 unfold jZ.f at H
 clear h
 by_cases c4 : a0 < a1
 ·rw [if_pos c4] at H
  have c4b0 : decide (a0 < a1) = true := decide_eq_true c4
  clear c4
  obtain rfl := Option.some.inj H
  go_enter Tryz.func34, Tryz.ntmps34
  go_wp2
  go_ret
  exact ⟨ar, dr⟩
 ·rw [if_neg c4] at H
  have c4b0 : decide (a0 < a1) = false := decide_eq_false c4
  clear c4
  obtain rfl := Option.some.inj H
  go_enter Tryz.func34, Tryz.ntmps34
  go_wp2
  go_ret
  exact ⟨ar, dr⟩
def jM.f (a0 : Int) : Option (Bool) := (jZ.f a0 1 3652059).bind fun t331 => (some (!t331))
theorem jM.calls (a0 : Int) (r : Bool) (w : World) (h : jM.f a0 = some r) :
  Calls Tryz.prog 32 #[.int .i64 a0] w fun e w' => e = .returned (.bool r) ∧ vS w w' := by
 have H := h
 unfold jM.f at H
 clear h
 replace H := Option.bind_eq_some_iff.mp H
 obtain ⟨t331, A20, H⟩ := H
 try dsimp only at H
 have A2 := zQ.mk A20
 clear A20
 obtain rfl := Option.some.inj H
 go_enter Tryz.func32, Tryz.ntmps32
 go_wp2_with (first | ((with_reducible refine gC 34 rfl ?_); refine gl_ 4 Tryz.func34 #[.int .i64 a0, .int .i64 1, .int .i64 3652059] ?_; (with_reducible refine (jZ.calls a0 1 3652059 t331 _ A2.out).mono ?_); rintro e w' ⟨rfl, ⟨nd, rfl⟩⟩; refine ⟨_, rfl, ?_⟩))
 go_ret
 exact ⟨ar, dr⟩
def jB.f (a0_0 : Int) (a0_1 : Int) : Option (Int) := (jZ.f a0_0 (-1000000000000000) 1000000000000000).bind fun t333 => (if t333 = true then (some 1) else ((jZ.f a0_1 0 9).bind fun t334 => (if t334 = true then (some 1) else (some 0))))
theorem jB.calls (a0_0 : Int) (a0_1 : Int) (r : Int) (w : World) (h : jB.f a0_0 a0_1 = some r) :
  Calls Tryz.prog 55 #[.agg #[.int .i64 a0_0, .int .i64 a0_1]] w fun e w' => e = .returned (.int .i64 r) ∧ Below w.heap.size w w' := by
 have hu33 := Tryz.underlying33
 have HB := zQ.mk (Below.refl w.heap.size w)
 have H := h
 unfold jB.f at H
 clear h
 replace H := Option.bind_eq_some_iff.mp H
 obtain ⟨t333, A20, H⟩ := H
 try dsimp only at H
 have A2 := zQ.mk A20
 clear A20
 by_cases c3 : t333 = true
 ·subst c3
  have H1 : (some 1) = some r := by rw [if_pos rfl] at H; exact H
  clear H
  have H := H1
  clear H1
  obtain rfl := Option.some.inj H
  go_enter Tryz.func55, Tryz.ntmps55
  go_wp2_with (first | ((with_reducible refine gD 1 rfl ?_); refine bx w 1 #[.int .i64 a0_0, .int .i64 a0_1] 33 ?_; intro gb332 hg w4 hb BK332 GW332 GE332; clear HB; intro HB; clear hb hg; obtain ⟨hcz5_0, hcz5_1, hfz5_0, hfz5_1⟩ := cz2 BK332) | ((with_reducible refine gC 34 rfl ?_); refine gl_ 5 Tryz.func34 #[.int .i64 a0_0, .int .i64 (-1000000000000000), .int .i64 1000000000000000] ?_; (with_reducible refine (jZ.calls a0_0 (-1000000000000000) 1000000000000000 true _ A2.out).mono ?_); rintro e w' ⟨rfl, ⟨nd, rfl⟩⟩; refine ⟨_, rfl, ?_⟩))
  go_ret
  exact ⟨by first | rfl | (simp [zq, zY] <;> rfl) | (simp [*, zq, zY] <;> rfl), (zb w)⟩
 ·replace c3 := Bool.eq_false_iff.mpr c3
  subst c3
  have H1 : ((jZ.f a0_1 0 9).bind fun t334 => (if t334 = true then (some 1) else (some 0))) = some r := by rw [if_neg (show ¬ (false = true) by decide)] at H; exact H
  clear H
  have H := H1
  clear H1
  replace H := Option.bind_eq_some_iff.mp H
  obtain ⟨t334, A60, H⟩ := H
  try dsimp only at H
  have A6 := zQ.mk A60
  clear A60
  by_cases c7 : t334 = true
  ·subst c7
   have H1 : (some 1) = some r := by rw [if_pos rfl] at H; exact H
   clear H
   have H := H1
   clear H1
   obtain rfl := Option.some.inj H
   go_enter Tryz.func55, Tryz.ntmps55
   go_wp2_with (first | ((with_reducible refine gD 1 rfl ?_); refine bx w 1 #[.int .i64 a0_0, .int .i64 a0_1] 33 ?_; intro gb332 hg w8 hb BK332 GW332 GE332; clear HB; intro HB; clear hb hg; obtain ⟨hcz9_0, hcz9_1, hfz9_0, hfz9_1⟩ := cz2 BK332) | ((with_reducible refine gC 34 rfl ?_); refine gl_ 5 Tryz.func34 #[.int .i64 a0_0, .int .i64 (-1000000000000000), .int .i64 1000000000000000] ?_; (with_reducible refine (jZ.calls a0_0 (-1000000000000000) 1000000000000000 false _ A2.out).mono ?_); rintro e w' ⟨rfl, ⟨nd, rfl⟩⟩; refine ⟨_, rfl, ?_⟩) | (go_at_call 34; (with_reducible refine (jZ.calls a0_1 0 9 true _ A6.out).mono ?_); rintro e w' ⟨rfl, ⟨nd, rfl⟩⟩))
   go_ret
   exact ⟨by first | rfl | (simp [zq, zY] <;> rfl) | (simp [*, zq, zY] <;> rfl), (zb w)⟩
  ·replace c7 := Bool.eq_false_iff.mpr c7
   subst c7
   have H1 : (some 0) = some r := by rw [if_neg (show ¬ (false = true) by decide)] at H; exact H
   clear H
   have H := H1
   clear H1
   obtain rfl := Option.some.inj H
   go_enter Tryz.func55, Tryz.ntmps55
   go_wp2_with (first | ((with_reducible refine gD 1 rfl ?_); refine bx w 1 #[.int .i64 a0_0, .int .i64 a0_1] 33 ?_; intro gb332 hg w10 hb BK332 GW332 GE332; clear HB; intro HB; clear hb hg; obtain ⟨hcz11_0, hcz11_1, hfz11_0, hfz11_1⟩ := cz2 BK332) | ((with_reducible refine gC 34 rfl ?_); refine gl_ 5 Tryz.func34 #[.int .i64 a0_0, .int .i64 (-1000000000000000), .int .i64 1000000000000000] ?_; (with_reducible refine (jZ.calls a0_0 (-1000000000000000) 1000000000000000 false _ A2.out).mono ?_); rintro e w' ⟨rfl, ⟨nd, rfl⟩⟩; refine ⟨_, rfl, ?_⟩) | (go_at_call 34; (with_reducible refine (jZ.calls a0_1 0 9 false _ A6.out).mono ?_); rintro e w' ⟨rfl, ⟨nd, rfl⟩⟩))
   go_ret
   exact ⟨by first | rfl | (simp [zq, zY] <;> rfl) | (simp [*, zq, zY] <;> rfl), (zb w)⟩
def vR.f (k : Nat) (a0_0 : Int) (a0_1 : Int) (a1 : Int) : Option (Bool) := (jD.f k a0_1).bind fun t336 => ((jZ.f a0_0 (wrap64 (-(wrap64 (a1 * t336)))) (wrap64 (a1 * t336))).bind fun t337 => (some (!t337)))
theorem vR.calls (k : Nat) (a0_0 : Int) (a0_1 : Int) (a1 : Int) (r : Bool) (w : World) (h : vR.f k a0_0 a0_1 a1 = some r) :
  Calls Tryz.prog 56 #[.agg #[.int .i64 a0_0, .int .i64 a0_1], .int .i64 a1] w fun e w' => e = .returned (.bool r) ∧ Below w.heap.size w w' := by
 have hu33 := Tryz.underlying33
 have HB := zQ.mk (Below.refl w.heap.size w)
 have H := h
 unfold vR.f at H
 clear h
 replace H := Option.bind_eq_some_iff.mp H
 obtain ⟨t336, A30, H⟩ := H
 try dsimp only at H
 have A3 := zQ.mk A30
 clear A30
 replace H := Option.bind_eq_some_iff.mp H
 obtain ⟨t337, A40, H⟩ := H
 try dsimp only at H
 have A4 := zQ.mk A40
 clear A40
 obtain rfl := Option.some.inj H
 go_enter Tryz.func56, Tryz.ntmps56
 go_wp2_with (first | ((with_reducible refine gD 2 rfl ?_); refine bx w 2 #[.int .i64 a0_0, .int .i64 a0_1] 33 ?_; intro gb335 hg w5 hb BK335 GW335 GE335; clear HB; intro HB; clear hb hg; obtain ⟨hcz6_0, hcz6_1, hfz6_0, hfz6_1⟩ := cz2 BK335) | ((with_reducible refine gC 65 rfl ?_); refine gl_ 9 Tryz.func65 #[.int .i64 a0_1] ?_; (with_reducible refine (jD.calls k a0_1 t336 _ A3.out).mono ?_); rintro e w' ⟨rfl, ⟨nd, rfl⟩⟩; refine ⟨_, rfl, ?_⟩) | ((with_reducible refine gC 34 rfl ?_); refine gl_ 16 Tryz.func34 #[.int .i64 a0_0, .int .i64 (wrap64 (-(wrap64 (a1 * t336)))), .int .i64 (wrap64 (a1 * t336))] ?_; (with_reducible refine (jZ.calls a0_0 (wrap64 (-(wrap64 (a1 * t336)))) (wrap64 (a1 * t336)) t337 _ A4.out).mono ?_); rintro e w' ⟨rfl, ⟨nd, rfl⟩⟩; refine ⟨_, rfl, ?_⟩))
 go_ret
 exact ⟨by first | rfl | (simp [zq, zY] <;> rfl) | (simp [*, zq, zY] <;> rfl), (zb w)⟩
def qW.f (k : Nat) (a0_0 : Int) (a0_1 : Int) : Option (Int) := (jB.f a0_0 a0_1).bind fun t339 => (if t339 = 0 then (if a0_0 ≤ 0 then (some 1) else (if a0_1 > 4 then (some 1) else ((vR.f k a0_0 a0_1 1000000000).bind fun t340 => (if t340 = true then (some 0) else (some 1))))) else (some t339))
theorem qW.calls (k : Nat) (a0_0 : Int) (a0_1 : Int) (r : Int) (w : World) (h : qW.f k a0_0 a0_1 = some r) :
  Calls Tryz.prog 33 #[.agg #[.int .i64 a0_0, .int .i64 a0_1]] w fun e w' => e = .returned (.int .i64 r) ∧ Below w.heap.size w w' := by
 have hu33 := Tryz.underlying33
 have HB := zQ.mk (Below.refl w.heap.size w)
 have H := h
 unfold qW.f at H
 clear h
 replace H := Option.bind_eq_some_iff.mp H
 obtain ⟨t339, A20, H⟩ := H
 try dsimp only at H
 have A2 := zQ.mk A20
 clear A20
 by_cases c3 : t339 = 0
 ·rw [if_pos c3] at H
  have c3b0 : (t339 == 0) = true := beq_iff_eq.mpr c3
  have c3b1 : (t339 != 0) = false := bne_eq_false_iff_eq.mpr c3
  clear c3
  by_cases c4 : a0_0 ≤ 0
  ·rw [if_pos c4] at H
   have c4b0 : decide (a0_0 ≤ 0) = true := decide_eq_true c4
   clear c4
   obtain rfl := Option.some.inj H
   go_enter Tryz.func33, Tryz.ntmps33
   go_wp2_with (first | ((with_reducible refine gD 1 rfl ?_); refine bx w 1 #[.int .i64 a0_0, .int .i64 a0_1] 33 ?_; intro gb338 hg w5 hb BK338 GW338 GE338; clear HB; intro HB; clear hb hg; obtain ⟨hcz6_0, hcz6_1, hfz6_0, hfz6_1⟩ := cz2 BK338) | ((with_reducible refine gC 55 rfl ?_); refine gl_ 5 Tryz.func55 #[.agg #[.int .i64 a0_0, .int .i64 a0_1]] ?_; (with_reducible refine (jB.calls a0_0 a0_1 t339 _ A2.out).mono ?_); rintro e w7 ⟨rfl, hb⟩; refine ⟨_, rfl, ?_⟩; replace BK338 := bb BK338 hb; replace HB := hs w hb; (try clear hb); obtain ⟨hcz8_0, hcz8_1, hfz8_0, hfz8_1⟩ := cz2 BK338))
   go_ret
   exact ⟨by first | rfl | (simp [zq, zY] <;> rfl) | (simp [*, zq, zY] <;> rfl), (zb w)⟩
  ·rw [if_neg c4] at H
   have c4b0 : decide (a0_0 ≤ 0) = false := decide_eq_false c4
   clear c4
   by_cases c9 : a0_1 > 4
   ·rw [if_pos c9] at H
    have c9b0 : decide (4 < a0_1) = true := decide_eq_true c9
    clear c9
    obtain rfl := Option.some.inj H
    go_enter Tryz.func33, Tryz.ntmps33
    go_wp2_with (first | ((with_reducible refine gD 1 rfl ?_); refine bx w 1 #[.int .i64 a0_0, .int .i64 a0_1] 33 ?_; intro gb338 hg w10 hb BK338 GW338 GE338; clear HB; intro HB; clear hb hg; obtain ⟨hcz11_0, hcz11_1, hfz11_0, hfz11_1⟩ := cz2 BK338) | ((with_reducible refine gC 55 rfl ?_); refine gl_ 5 Tryz.func55 #[.agg #[.int .i64 a0_0, .int .i64 a0_1]] ?_; (with_reducible refine (jB.calls a0_0 a0_1 t339 _ A2.out).mono ?_); rintro e w12 ⟨rfl, hb⟩; refine ⟨_, rfl, ?_⟩; replace BK338 := bb BK338 hb; replace HB := hs w hb; (try clear hb); obtain ⟨hcz13_0, hcz13_1, hfz13_0, hfz13_1⟩ := cz2 BK338))
    go_ret
    exact ⟨by first | rfl | (simp [zq, zY] <;> rfl) | (simp [*, zq, zY] <;> rfl), (zb w)⟩
   ·rw [if_neg c9] at H
    have c9b0 : decide (4 < a0_1) = false := decide_eq_false c9
    clear c9
    replace H := Option.bind_eq_some_iff.mp H
    obtain ⟨t340, A140, H⟩ := H
    try dsimp only at H
    have A14 := zQ.mk A140
    clear A140
    by_cases c15 : t340 = true
    ·subst c15
     have H1 : (some 0) = some r := by rw [if_pos rfl] at H; exact H
     clear H
     have H := H1
     clear H1
     obtain rfl := Option.some.inj H
     go_enter Tryz.func33, Tryz.ntmps33
     go_wp2_with (first | ((with_reducible refine gD 1 rfl ?_); refine bx w 1 #[.int .i64 a0_0, .int .i64 a0_1] 33 ?_; intro gb338 hg w16 hb BK338 GW338 GE338; clear HB; intro HB; clear hb hg; obtain ⟨hcz17_0, hcz17_1, hfz17_0, hfz17_1⟩ := cz2 BK338) | ((with_reducible refine gC 55 rfl ?_); refine gl_ 5 Tryz.func55 #[.agg #[.int .i64 a0_0, .int .i64 a0_1]] ?_; (with_reducible refine (jB.calls a0_0 a0_1 t339 _ A2.out).mono ?_); rintro e w18 ⟨rfl, hb⟩; refine ⟨_, rfl, ?_⟩; replace BK338 := bb BK338 hb; replace HB := hs w hb; (try clear hb); obtain ⟨hcz19_0, hcz19_1, hfz19_0, hfz19_1⟩ := cz2 BK338) | (go_at_call 56; (with_reducible refine (vR.calls k a0_0 a0_1 1000000000 true _ A14.out).mono ?_); rintro e w20 ⟨rfl, hb⟩; replace BK338 := bb BK338 hb; replace HB := hs w hb; (try clear hb)))
     go_ret
     exact ⟨by first | rfl | (simp [zq, zY] <;> rfl) | (simp [*, zq, zY] <;> rfl), (zb w)⟩
    ·replace c15 := Bool.eq_false_iff.mpr c15
     subst c15
     have H1 : (some 1) = some r := by rw [if_neg (show ¬ (false = true) by decide)] at H; exact H
     clear H
     have H := H1
     clear H1
     obtain rfl := Option.some.inj H
     go_enter Tryz.func33, Tryz.ntmps33
     go_wp2_with (first | ((with_reducible refine gD 1 rfl ?_); refine bx w 1 #[.int .i64 a0_0, .int .i64 a0_1] 33 ?_; intro gb338 hg w21 hb BK338 GW338 GE338; clear HB; intro HB; clear hb hg; obtain ⟨hcz22_0, hcz22_1, hfz22_0, hfz22_1⟩ := cz2 BK338) | ((with_reducible refine gC 55 rfl ?_); refine gl_ 5 Tryz.func55 #[.agg #[.int .i64 a0_0, .int .i64 a0_1]] ?_; (with_reducible refine (jB.calls a0_0 a0_1 t339 _ A2.out).mono ?_); rintro e w23 ⟨rfl, hb⟩; refine ⟨_, rfl, ?_⟩; replace BK338 := bb BK338 hb; replace HB := hs w hb; (try clear hb); obtain ⟨hcz24_0, hcz24_1, hfz24_0, hfz24_1⟩ := cz2 BK338) | (go_at_call 56; (with_reducible refine (vR.calls k a0_0 a0_1 1000000000 false _ A14.out).mono ?_); rintro e w25 ⟨rfl, hb⟩; replace BK338 := bb BK338 hb; replace HB := hs w hb; (try clear hb)))
     go_ret
     exact ⟨by first | rfl | (simp [zq, zY] <;> rfl) | (simp [*, zq, zY] <;> rfl), (zb w)⟩
 ·rw [if_neg c3] at H
  have c3b0 : (t339 == 0) = false := beq_eq_false_iff_ne.mpr c3
  have c3b1 : (t339 != 0) = true := bne_iff_ne.mpr c3
  obtain rfl := Option.some.inj H
  go_enter Tryz.func33, Tryz.ntmps33
  go_wp2_with (first | ((with_reducible refine gD 1 rfl ?_); refine bx w 1 #[.int .i64 a0_0, .int .i64 a0_1] 33 ?_; intro gb338 hg w26 hb BK338 GW338 GE338; clear HB; intro HB; clear hb hg; obtain ⟨hcz27_0, hcz27_1, hfz27_0, hfz27_1⟩ := cz2 BK338) | ((with_reducible refine gC 55 rfl ?_); refine gl_ 5 Tryz.func55 #[.agg #[.int .i64 a0_0, .int .i64 a0_1]] ?_; (with_reducible refine (jB.calls a0_0 a0_1 t339 _ A2.out).mono ?_); rintro e w28 ⟨rfl, hb⟩; refine ⟨_, rfl, ?_⟩; replace BK338 := bb BK338 hb; replace HB := hs w hb; (try clear hb)))
  go_ret
  exact ⟨by first | rfl | (simp [zq, zY] <;> rfl) | (simp [*, zq, zY] <;> rfl), (zb w)⟩
def qY.l0 : Nat → List ByteArray → ByteArray → Int → Int → Option (Int)
 | 0, _, _, _, _ => none
 | k + 1, x0, x1, x7, x8 => if x8 < x7 then (if 0 ≤ x8 then (if x8 < (x0.length : Int) then (if x1.toList = (rdOf ByteArray.empty x0 x8).toList then (some x8) else (qY.l0 k x0 x1 x7 (wrap64 (x8 + 1)))) else (none)) else (none)) else (some (-1))
def qY.f (k : Nat) (l0 : List ByteArray) (a1 : ByteArray) : Option (Int) := qY.l0 k l0 a1 (l0.length : Int) 0
theorem qY.calls (k : Nat) (A0 : Option Addr) (c0 : Nat) (l0 : List ByteArray) (a1 : ByteArray) (r : Int) (w : World) (hr0 : Kd.C Kd.string w A0 l0.length l0) (hc0 : l0.length ≤ c0) (h : qY.f k l0 a1 = some r) :
  Calls Tryz.prog 57 #[.slice A0 l0.length c0, .string a1] w fun e w' => e = .returned (.int .i64 r) ∧ vS w w' := by
 have HR0 := zQ.mk hr0
 have HC0 := zQ.mk hc0
 clear hr0 hc0
 have H := h
 unfold qY.f at H
 clear h
 have H' := zQ.mk H
 clear H
 go_enter Tryz.func57, Tryz.ntmps57
 go_wp2
 try simp only [sq]
 go_loopg [8] k (fun kq v8 w' => ∃ (x8_1 : Int), v8 = .int .i64 x8_1 ∧ zQ (qY.l0 kq l0 a1 (l0.length : Int) x8_1 = some r) ∧ zQ (kq ≤ k) ∧ vS w w')
 case atStart => exact ⟨(0), ar, H', ⟨Nat.le_refl _⟩, dr⟩
 case round =>
  clear H'
  try clear p2
  obtain ⟨x8_1, rfl, HA, HK1, ⟨m1, rfl⟩⟩ := hrel
  cases gk with
  | zero => exact absurd HA.out (by simp [qY.l0])
  | succ k1 =>
   have H := HA.out
   clear HA
   simp only [qY.l0] at H
   by_cases c3 : x8_1 < (l0.length : Int)
   ·rw [if_pos c3] at H
    have c3b0 : decide (x8_1 < (l0.length : Int)) = true := decide_eq_true c3
    clear c3
    by_cases c4 : 0 ≤ x8_1
    ·rw [if_pos c4] at H
     have c4b0 : decide (0 ≤ x8_1) = true := decide_eq_true c4
     clear c4
     by_cases c5 : x8_1 < (l0.length : Int)
     ·rw [if_pos c5] at H
      have c5b0 : decide (x8_1 < (l0.length : Int)) = true := decide_eq_true c5
      clear c5
      by_cases c6 : a1.toList = (rdOf ByteArray.empty l0 x8_1).toList
      ·rw [if_pos c6] at H
       have c6b0 : (a1.toList == (rdOf ByteArray.empty l0 x8_1).toList) = true := beq_iff_eq.mpr c6
       have c6b1 : (a1.toList != (rdOf ByteArray.empty l0 x8_1).toList) = false := bne_eq_false_iff_eq.mpr c6
       clear c6
       obtain rfl := Option.some.inj H
       have p341 : 0 ≤ (x8_1 : Int) := of_decide_eq_true (by assumption)
       have q341 : x8_1 < (l0.length : Int) := of_decide_eq_true (by assumption)
       obtain ⟨ad341, e341, hx341_0⟩ := Kd.yD HR0.out x8_1 p341 q341
       cases e341
       replace p341 := eq_true p341
       replace q341 := eq_true q341
       go_wp2
       go_ret
       exact ⟨ar, dr⟩
      ·rw [if_neg c6] at H
       have c6b0 : (a1.toList == (rdOf ByteArray.empty l0 x8_1).toList) = false := beq_eq_false_iff_ne.mpr c6
       have c6b1 : (a1.toList != (rdOf ByteArray.empty l0 x8_1).toList) = true := bne_iff_ne.mpr c6
       have H' := zQ.mk H
       clear H
       have p341 : 0 ≤ (x8_1 : Int) := of_decide_eq_true (by assumption)
       have q341 : x8_1 < (l0.length : Int) := of_decide_eq_true (by assumption)
       obtain ⟨ad341, e341, hx341_0⟩ := Kd.yD HR0.out x8_1 p341 q341
       cases e341
       replace p341 := eq_true p341
       replace q341 := eq_true q341
       go_wp2
       go_roundg k1
       case measure => have := HK1.out; omega
       case rel => exact ⟨(wrap64 (x8_1 + 1)), ar, H', ⟨by have := HK1.out; omega⟩, dr⟩
     ·rw [if_neg c5] at H
      exact absurd H (by simp)
    ·rw [if_neg c4] at H
     exact absurd H (by simp)
   ·rw [if_neg c3] at H
    have c3b0 : decide (x8_1 < (l0.length : Int)) = false := decide_eq_false c3
    clear c3
    obtain rfl := Option.some.inj H
    go_wp2
    go_ret
    exact ⟨ar, dr⟩
def zN.f (k : Nat) (l0 : List ByteArray) (a1 : ByteArray) : Option (Bool) := (qY.f k l0 a1).bind fun t342 => (some (decide (t342 ≥ 0)))
theorem zN.calls (k : Nat) (A0 : Option Addr) (c0 : Nat) (l0 : List ByteArray) (a1 : ByteArray) (r : Bool) (w : World) (hr0 : Kd.C Kd.string w A0 l0.length l0) (hc0 : l0.length ≤ c0) (h : zN.f k l0 a1 = some r) :
  Calls Tryz.prog 35 #[.slice A0 l0.length c0, .string a1] w fun e w' => e = .returned (.bool r) ∧ vS w w' := by
 have HR0 := zQ.mk hr0
 have HC0 := zQ.mk hc0
 clear hr0 hc0
 have H := h
 unfold zN.f at H
 clear h
 replace H := Option.bind_eq_some_iff.mp H
 obtain ⟨t342, A30, H⟩ := H
 try dsimp only at H
 have A3 := zQ.mk A30
 clear A30
 obtain rfl := Option.some.inj H
 go_enter Tryz.func35, Tryz.ntmps35
 go_wp2_with (first | ((with_reducible refine gC 57 rfl ?_); refine gl_ 7 Tryz.func57 #[.slice A0 l0.length c0, .string a1] ?_; (with_reducible refine (qY.calls k _ _ l0 a1 t342 _ ?side1 HC0.out A3.out).mono ?_); (case side1 => exact zz); rintro e w' ⟨rfl, ⟨nd, rfl⟩⟩; refine ⟨_, rfl, ?_⟩))
 go_ret
 exact ⟨ar, dr⟩
mutual
def zD.l0 : Nat → List (S72) → List (S72) → Int → Int → Option (Int)
 | 0, _, _, _, _ => none
 | k + 1, x0, x11, x12, x13 => if x13 < x12 then (if 0 ≤ x13 then (if x13 < (x11.length : Int) then ((jM.f ((zX x11 x13).f0)).bind fun t345 => (if t345 = true then (if x13 > 0 then (if 0 ≤ (wrap64 (x13 - 1)) then (if (wrap64 (x13 - 1)) < (x0.length : Int) then (zD.j1 k x0 x11 x12 x13 (decide (((zX x11 x13).f0) < ((zX x0 (wrap64 (x13 - 1))).f0))) ((zX x11 x13).f0) ((zX x11 x13).f1.f0) ((zX x11 x13).f1.f1) ((zX x11 x13).f2)) else (none)) else (none)) else (zD.j1 k x0 x11 x12 x13 false ((zX x11 x13).f0) ((zX x11 x13).f1.f0) ((zX x11 x13).f1.f1) ((zX x11 x13).f2))) else (some 1))) else (none)) else (none)) else (some 0)
def zD.j1 : Nat → List (S72) → List (S72) → Int → Int → Bool → Int → Int → Int → List ByteArray → Option (Int)
 | 0, _, _, _, _, _, _, _, _, _ => none
 | k + 1, x0, x11, x12, x13, x34, x345000, x345001, x345002, x345003 => if x34 = true then (some 8) else ((qW.f k x345001 x345002).bind fun t347 => (if t347 = 0 then (if (x345003.length : Int) > 100 then (some 2) else (zD.l1 k x0 x11 x12 x13 x345003 (x345003.length : Int) 0 x345000 x345001 x345002 x345003)) else (some t347)))
def zD.l1 : Nat → List (S72) → List (S72) → Int → Int → List ByteArray → Int → Int → Int → Int → Int → List ByteArray → Option (Int)
 | 0, _, _, _, _, _, _, _, _, _, _, _ => none
 | k + 1, x0, x11, x12, x13, x46, x47, x48, x345000, x345001, x345002, x345003 => if x48 < x47 then (if 0 ≤ x48 then (if x48 < (x46.length : Int) then ((jV.f (rdOf ByteArray.empty x46 x48)).bind fun t349 => (if t349 = true then (if x48 ≤ (x345003.length : Int) then ((zN.f k (x345003.take (x48 : Int).toNat) (rdOf ByteArray.empty x46 x48)).bind fun t351 => (if t351 = true then (some 7) else (zD.l1 k x0 x11 x12 x13 x46 x47 (wrap64 (x48 + 1)) x345000 x345001 x345002 x345003))) else (none)) else (some 5))) else (none)) else (none)) else (zD.l0 k x0 x11 x12 (wrap64 (x13 + 1)))
end
def zD.f (k : Nat) (l0 : List (S72)) : Option (Int) := if (l0.length : Int) > 500 then (some 2) else (zD.l0 k l0 l0 (l0.length : Int) 0)
theorem zD.calls (k : Nat) (A0 : Option Addr) (c0 : Nat) (l0 : List (S72)) (r : Int) (w : World) (hr0 : Kd.C k72 w A0 l0.length l0) (hc0 : l0.length ≤ c0) (h : zD.f k l0 = some r) :
  Calls Tryz.prog 10 #[.slice A0 l0.length c0] w fun e w' => e = .returned (.int .i64 r) ∧ Below w.heap.size w w' := by
 have hu72 := Tryz.underlying72
 have hu33 := Tryz.underlying33
 have HR0 := zQ.mk hr0
 have HC0 := zQ.mk hc0
 clear hr0 hc0
 have HB := zQ.mk (Below.refl w.heap.size w)
 have H := h
 unfold zD.f at H
 clear h
 by_cases c2 : (l0.length : Int) > 500
 ·rw [if_pos c2] at H
  have c2b0 : decide (500 < (l0.length : Int)) = true := decide_eq_true c2
  have c2b1 : decide (500 < l0.length) = true := decide_eq_true (by omega)
  clear c2
  obtain rfl := Option.some.inj H
  go_enter Tryz.func10, Tryz.ntmps10
  go_wp2
  repeat (go_quiet (fail); try go_wp2)
  go_ret
  exact ⟨by first | rfl | (simp [zq, zY] <;> rfl) | (simp [*, zq, zY] <;> rfl), (zb w)⟩
 ·rw [if_neg c2] at H
  have c2b0 : decide (500 < (l0.length : Int)) = false := decide_eq_false c2
  have c2b1 : decide (500 < l0.length) = false := decide_eq_false (by omega)
  clear c2
  have H' := zQ.mk H
  clear H
  go_enter Tryz.func10, Tryz.ntmps10
  go_wp2
  repeat (go_quiet (fail); try go_wp2)
  try simp only [sq]
  go_loopg [13] k (fun kq v13 w' => ∃ (x13_1 : Int), v13 = .int .i64 x13_1 ∧ zQ (zD.l0 kq l0 l0 (l0.length : Int) x13_1 = some r) ∧ zQ (kq ≤ k) ∧ zQ (Below w.heap.size w w'))
  case atStart => exact ⟨(0), ar, H', ⟨Nat.le_refl _⟩, ⟨(zb w)⟩⟩
  case round =>
   clear H'
   try clear c1
   try clear c2
   try clear c2b0
   try clear c2b1
   try clear p2
   obtain ⟨x13_1, rfl, HA, HK1, HB⟩ := hrel
   cases gk with
   | zero => exact absurd HA.out (by simp [zD.l0])
   | succ k1 =>
    have H := HA.out
    clear HA
    simp only [zD.l0] at H
    by_cases c3 : x13_1 < (l0.length : Int)
    ·rw [if_pos c3] at H
     have c3b0 : decide (x13_1 < (l0.length : Int)) = true := decide_eq_true c3
     clear c3
     by_cases c4 : 0 ≤ x13_1
     ·rw [if_pos c4] at H
      have c4b0 : decide (0 ≤ x13_1) = true := decide_eq_true c4
      clear c4
      by_cases c5 : x13_1 < (l0.length : Int)
      ·rw [if_pos c5] at H
       have c5b0 : decide (x13_1 < (l0.length : Int)) = true := decide_eq_true c5
       clear c5
       replace H := Option.bind_eq_some_iff.mp H
       obtain ⟨t345, A60, H⟩ := H
       try dsimp only at H
       have A6 := zQ.mk A60
       clear A60
       by_cases c7 : t345 = true
       ·subst c7
        have H1 : (if x13_1 > 0 then (if 0 ≤ (wrap64 (x13_1 - 1)) then (if (wrap64 (x13_1 - 1)) < (l0.length : Int) then (zD.j1 k1 l0 l0 (l0.length : Int) x13_1 (decide (((zX l0 x13_1).f0) < ((zX l0 (wrap64 (x13_1 - 1))).f0))) ((zX l0 x13_1).f0) ((zX l0 x13_1).f1.f0) ((zX l0 x13_1).f1.f1) ((zX l0 x13_1).f2)) else (none)) else (none)) else (zD.j1 k1 l0 l0 (l0.length : Int) x13_1 false ((zX l0 x13_1).f0) ((zX l0 x13_1).f1.f0) ((zX l0 x13_1).f1.f1) ((zX l0 x13_1).f2))) = some r := by rw [if_pos rfl] at H; exact H
        clear H
        have H := H1
        clear H1
        have HC8 := zQ.mk H
        clear H
        have p343 : 0 ≤ (x13_1 : Int) := of_decide_eq_true (by assumption)
        have q343 : x13_1 < (l0.length : Int) := of_decide_eq_true (by assumption)
        obtain ⟨ad343, A343_3, c343_3, e343, hx343_0, hx343_1, hx343_2, hx343_3, hl343_3, hi343_3⟩ := zKl HR0.out x13_1 p343 q343
        cases e343
        replace hx343_0 := hz HB hx343_0
        replace hx343_1 := hz HB hx343_1
        replace hx343_2 := hz HB hx343_2
        replace hx343_3 := hz HB hx343_3
        have HR343_3 := zQ.mk hi343_3
        have HC343_3 := zQ.mk hl343_3
        clear hi343_3 hl343_3
        replace p343 := eq_true p343
        replace q343 := eq_true q343
        go_upto_region 8 with (first | ((with_reducible refine gD 4 rfl ?_); refine bx w 4 #[.int .i64 0, .int .i64 0, .int .i64 0, .slice none 0 0] 72 ?_; intro gb344 hg w9 hb BK344 GW344 GE344; clear HB; intro HB; clear hb hg; obtain ⟨hcz10_0, hcz10_1, hcz10_2, hcz10_3, hfz10_0, hfz10_1, hfz10_2, hfz10_3⟩ := cz4 BK344) | (go_at_call 32; (with_reducible refine (jM.calls ((zX l0 x13_1).f0) true _ A6.out).mono ?_); rintro e w' ⟨rfl, ⟨nd, rfl⟩⟩; (try first | exact ⟨rfl, _, World.drewN_drewN _ _ _⟩ | exact ⟨rfl, _, Eq.trans (World.drewN_drewN _ _ _) (congrArg (World.drewN _) (Nat.add_assoc _ _ _))⟩)))
        repeat (go_quiet (first | ((with_reducible refine gD 4 rfl ?_); refine bx w 4 #[.int .i64 0, .int .i64 0, .int .i64 0, .slice none 0 0] 72 ?_; intro gb344 hg w9 hb BK344 GW344 GE344; clear HB; intro HB; clear hb hg; obtain ⟨hcz10_0, hcz10_1, hcz10_2, hcz10_3, hfz10_0, hfz10_1, hfz10_2, hfz10_3⟩ := cz4 BK344) | (go_at_call 32; (with_reducible refine (jM.calls ((zX l0 x13_1).f0) true _ A6.out).mono ?_); rintro e w' ⟨rfl, ⟨nd, rfl⟩⟩; (try first | exact ⟨rfl, _, World.drewN_drewN _ _ _⟩ | exact ⟨rfl, _, Eq.trans (World.drewN_drewN _ _ _) (congrArg (World.drewN _) (Nat.add_assoc _ _ _))⟩))); go_upto_region 8 with (first | ((with_reducible refine gD 4 rfl ?_); refine bx w 4 #[.int .i64 0, .int .i64 0, .int .i64 0, .slice none 0 0] 72 ?_; intro gb344 hg w9 hb BK344 GW344 GE344; clear HB; intro HB; clear hb hg; obtain ⟨hcz10_0, hcz10_1, hcz10_2, hcz10_3, hfz10_0, hfz10_1, hfz10_2, hfz10_3⟩ := cz4 BK344) | (go_at_call 32; (with_reducible refine (jM.calls ((zX l0 x13_1).f0) true _ A6.out).mono ?_); rintro e w' ⟨rfl, ⟨nd, rfl⟩⟩; (try first | exact ⟨rfl, _, World.drewN_drewN _ _ _⟩ | exact ⟨rfl, _, Eq.trans (World.drewN_drewN _ _ _) (congrArg (World.drewN _) (Nat.add_assoc _ _ _))⟩))))
        (try simp only [sq])
        go_cut [34] (fun v34 wc => ∃ (kq : Nat) (x34_7 : Bool), v34 = .bool x34_7 ∧ zQ (zD.j1 kq l0 l0 (l0.length : Int) x13_1 x34_7 ((zX l0 x13_1).f0) ((zX l0 x13_1).f1.f0) ((zX l0 x13_1).f1.f1) ((zX l0 x13_1).f2) = some r) ∧ zQ (kq ≤ k1) ∧ zQ (wc.heap[gb344]? = some (.cells #[.int .i64 ((zX l0 x13_1).f0), .int .i64 ((zX l0 x13_1).f1.f0), .int .i64 ((zX l0 x13_1).f1.f1), (.slice A343_3 ((zX l0 x13_1).f2).length c343_3)] 72 (0, 0))) ∧ zQ (Below w.heap.size w wc))
        case first =>
         have H := HC8.out
         clear HC8
         by_cases c11 : x13_1 > 0
         ·rw [if_pos c11] at H
          have c11b0 : decide (0 < x13_1) = true := decide_eq_true c11
          clear c11
          (first | rw [c11b0] | (simp only [jw, vL]; rw [c11b0]) | skip)
          obtain ⟨ji12, hji12⟩ : ∃ j_ : Int, (wrap64 (x13_1 - 1)) = j_ := ⟨_, rfl⟩
          replace H : (if 0 ≤ (ji12) then (if (ji12) < (l0.length : Int) then (zD.j1 k1 l0 l0 (l0.length : Int) x13_1 (decide (((zX l0 x13_1).f0) < ((zX l0 (ji12)).f0))) ((zX l0 x13_1).f0) ((zX l0 x13_1).f1.f0) ((zX l0 x13_1).f1.f1) ((zX l0 x13_1).f2)) else (none)) else (none)) = some r := by first | (rw [hji12] at H; exact H) | (simp only [hji12] at H ⊢; exact H)
          have hji12w : (IntKind.i64.wrap (x13_1 - 1)) = ji12 := (jw _).trans hji12
          by_cases c13 : 0 ≤ (ji12)
          ·rw [if_pos c13] at H
           have c13b0 : decide (0 ≤ (ji12)) = true := decide_eq_true c13
           clear c13
           by_cases c14 : (ji12) < (l0.length : Int)
           ·rw [if_pos c14] at H
            have c14b0 : decide ((ji12) < (l0.length : Int)) = true := decide_eq_true c14
            clear c14
            have H' := zQ.mk H
            clear H
            obtain ⟨hcz15_0, hcz15_1, hcz15_2, hcz15_3, hfz15_0, hfz15_1, hfz15_2, hfz15_3⟩ := cz4 BK344
            have p346 : 0 ≤ ((ji12) : Int) := of_decide_eq_true (by assumption)
            have q346 : (ji12) < (l0.length : Int) := of_decide_eq_true (by assumption)
            obtain ⟨ad346, A346_3, c346_3, e346, hx346_0, hx346_1, hx346_2, hx346_3, hl346_3, hi346_3⟩ := zKl HR0.out (ji12) p346 q346
            obtain rfl : ad343 = ad346 := (by injection e346)
            have hn346_0 : ad343.block ≠ gb344 := Nat.ne_of_lt (Nat.lt_of_lt_of_le (by have := World.block_lt_of_cell? _ _ hx346_0; first | rwa [add_block] at this | exact this) GW344.out)
            have hn346_1 : ad343.block ≠ gb344 := Nat.ne_of_lt (Nat.lt_of_lt_of_le (by have := World.block_lt_of_cell? _ _ hx346_0; first | rwa [add_block] at this | exact this) GW344.out)
            have hn346_2 : ad343.block ≠ gb344 := Nat.ne_of_lt (Nat.lt_of_lt_of_le (by have := World.block_lt_of_cell? _ _ hx346_0; first | rwa [add_block] at this | exact this) GW344.out)
            have hn346_3 : ad343.block ≠ gb344 := Nat.ne_of_lt (Nat.lt_of_lt_of_le (by have := World.block_lt_of_cell? _ _ hx346_0; first | rwa [add_block] at this | exact this) GW344.out)
            replace hx346_0 := hz HB hx346_0
            replace hx346_1 := hz HB hx346_1
            replace hx346_2 := hz HB hx346_2
            replace hx346_3 := hz HB hx346_3
            have HR346_3 := zQ.mk hi346_3
            have HC346_3 := zQ.mk hl346_3
            clear hi346_3 hl346_3
            replace hx346_0 := (cell_far (p := ⟨gb344, 0, none⟩) (by first | (rw [add_block]; exact hn346_0) | (show (Addr.add _ _).block ≠ _; rw [add_block]; exact hn346_0) | exact hn346_0) (.int .i64 ((zX l0 x13_1).f0))).trans hx346_0
            replace hx346_1 := (cell_far (p := ⟨gb344, 0, none⟩) (by first | (rw [add_block]; exact hn346_0) | (show (Addr.add _ _).block ≠ _; rw [add_block]; exact hn346_0) | exact hn346_0) (.int .i64 ((zX l0 x13_1).f0))).trans hx346_1
            replace hx346_2 := (cell_far (p := ⟨gb344, 0, none⟩) (by first | (rw [add_block]; exact hn346_0) | (show (Addr.add _ _).block ≠ _; rw [add_block]; exact hn346_0) | exact hn346_0) (.int .i64 ((zX l0 x13_1).f0))).trans hx346_2
            replace hx346_3 := (cell_far (p := ⟨gb344, 0, none⟩) (by first | (rw [add_block]; exact hn346_0) | (show (Addr.add _ _).block ≠ _; rw [add_block]; exact hn346_0) | exact hn346_0) (.int .i64 ((zX l0 x13_1).f0))).trans hx346_3
            replace hx346_0 := (cell_far (p := ⟨gb344, 1, none⟩) (by first | (rw [add_block]; exact hn346_1) | (show (Addr.add _ _).block ≠ _; rw [add_block]; exact hn346_1) | exact hn346_1) (.int .i64 ((zX l0 x13_1).f1.f0))).trans hx346_0
            replace hx346_1 := (cell_far (p := ⟨gb344, 1, none⟩) (by first | (rw [add_block]; exact hn346_1) | (show (Addr.add _ _).block ≠ _; rw [add_block]; exact hn346_1) | exact hn346_1) (.int .i64 ((zX l0 x13_1).f1.f0))).trans hx346_1
            replace hx346_2 := (cell_far (p := ⟨gb344, 1, none⟩) (by first | (rw [add_block]; exact hn346_1) | (show (Addr.add _ _).block ≠ _; rw [add_block]; exact hn346_1) | exact hn346_1) (.int .i64 ((zX l0 x13_1).f1.f0))).trans hx346_2
            replace hx346_3 := (cell_far (p := ⟨gb344, 1, none⟩) (by first | (rw [add_block]; exact hn346_1) | (show (Addr.add _ _).block ≠ _; rw [add_block]; exact hn346_1) | exact hn346_1) (.int .i64 ((zX l0 x13_1).f1.f0))).trans hx346_3
            replace hx346_0 := (cell_far (p := ⟨gb344, 2, none⟩) (by first | (rw [add_block]; exact hn346_2) | (show (Addr.add _ _).block ≠ _; rw [add_block]; exact hn346_2) | exact hn346_2) (.int .i64 ((zX l0 x13_1).f1.f1))).trans hx346_0
            replace hx346_1 := (cell_far (p := ⟨gb344, 2, none⟩) (by first | (rw [add_block]; exact hn346_2) | (show (Addr.add _ _).block ≠ _; rw [add_block]; exact hn346_2) | exact hn346_2) (.int .i64 ((zX l0 x13_1).f1.f1))).trans hx346_1
            replace hx346_2 := (cell_far (p := ⟨gb344, 2, none⟩) (by first | (rw [add_block]; exact hn346_2) | (show (Addr.add _ _).block ≠ _; rw [add_block]; exact hn346_2) | exact hn346_2) (.int .i64 ((zX l0 x13_1).f1.f1))).trans hx346_2
            replace hx346_3 := (cell_far (p := ⟨gb344, 2, none⟩) (by first | (rw [add_block]; exact hn346_2) | (show (Addr.add _ _).block ≠ _; rw [add_block]; exact hn346_2) | exact hn346_2) (.int .i64 ((zX l0 x13_1).f1.f1))).trans hx346_3
            replace hx346_0 := (cell_far (p := ⟨gb344, 3, none⟩) (by first | (rw [add_block]; exact hn346_3) | (show (Addr.add _ _).block ≠ _; rw [add_block]; exact hn346_3) | exact hn346_3) (.slice A343_3 ((zX l0 x13_1).f2).length c343_3)).trans hx346_0
            replace hx346_1 := (cell_far (p := ⟨gb344, 3, none⟩) (by first | (rw [add_block]; exact hn346_3) | (show (Addr.add _ _).block ≠ _; rw [add_block]; exact hn346_3) | exact hn346_3) (.slice A343_3 ((zX l0 x13_1).f2).length c343_3)).trans hx346_1
            replace hx346_2 := (cell_far (p := ⟨gb344, 3, none⟩) (by first | (rw [add_block]; exact hn346_3) | (show (Addr.add _ _).block ≠ _; rw [add_block]; exact hn346_3) | exact hn346_3) (.slice A343_3 ((zX l0 x13_1).f2).length c343_3)).trans hx346_2
            replace hx346_3 := (cell_far (p := ⟨gb344, 3, none⟩) (by first | (rw [add_block]; exact hn346_3) | (show (Addr.add _ _).block ≠ _; rw [add_block]; exact hn346_3) | exact hn346_3) (.slice A343_3 ((zX l0 x13_1).f2).length c343_3)).trans hx346_3
            (try have hy346_0 := fun (n_ : Nat) => (show ((((((w9.drewN n_).setCell ⟨gb344, 0, none⟩ (.int .i64 ((zX l0 x13_1).f0))).setCell ⟨gb344, 1, none⟩ (.int .i64 ((zX l0 x13_1).f1.f0))).setCell ⟨gb344, 2, none⟩ (.int .i64 ((zX l0 x13_1).f1.f1))).setCell ⟨gb344, 3, none⟩ (.slice A343_3 ((zX l0 x13_1).f2).length c343_3))).cell? _ = some _ from hx346_0))
            (try have hy346_1 := fun (n_ : Nat) => (show ((((((w9.drewN n_).setCell ⟨gb344, 0, none⟩ (.int .i64 ((zX l0 x13_1).f0))).setCell ⟨gb344, 1, none⟩ (.int .i64 ((zX l0 x13_1).f1.f0))).setCell ⟨gb344, 2, none⟩ (.int .i64 ((zX l0 x13_1).f1.f1))).setCell ⟨gb344, 3, none⟩ (.slice A343_3 ((zX l0 x13_1).f2).length c343_3))).cell? _ = some _ from hx346_1))
            (try have hy346_2 := fun (n_ : Nat) => (show ((((((w9.drewN n_).setCell ⟨gb344, 0, none⟩ (.int .i64 ((zX l0 x13_1).f0))).setCell ⟨gb344, 1, none⟩ (.int .i64 ((zX l0 x13_1).f1.f0))).setCell ⟨gb344, 2, none⟩ (.int .i64 ((zX l0 x13_1).f1.f1))).setCell ⟨gb344, 3, none⟩ (.slice A343_3 ((zX l0 x13_1).f2).length c343_3))).cell? _ = some _ from hx346_2))
            (try have hy346_3 := fun (n_ : Nat) => (show ((((((w9.drewN n_).setCell ⟨gb344, 0, none⟩ (.int .i64 ((zX l0 x13_1).f0))).setCell ⟨gb344, 1, none⟩ (.int .i64 ((zX l0 x13_1).f1.f0))).setCell ⟨gb344, 2, none⟩ (.int .i64 ((zX l0 x13_1).f1.f1))).setCell ⟨gb344, 3, none⟩ (.slice A343_3 ((zX l0 x13_1).f2).length c343_3))).cell? _ = some _ from hx346_3))
            clear hn346_0
            clear hn346_1
            clear hn346_2
            clear hn346_3
            replace p346 := eq_true p346
            replace q346 := eq_true q346
            go_wp2
            repeat (go_quiet (fail); try go_wp2)
            go_meet
            case rel => exact ⟨_, (decide (((zX l0 x13_1).f0) < ((zX l0 (ji12)).f0))), (by first | rfl | (simp; done) | (simp only [← hji12] <;> (first | rfl | simp)) | (simp [*]; done)), H', ⟨by have := HK1.out; first | omega | exact Nat.le_refl _⟩, ⟨by (with_reducible repeat (first | refine zJ ?_ _ | refine zK ?_ | refine zZ ?_ _)); refine zL (cs := #[.int .i64 ((zX l0 x13_1).f0), .int .i64 ((zX l0 x13_1).f1.f0), .int .i64 ((zX l0 x13_1).f1.f1), .slice none 0 0]) ?_ 3 _ rfl; (with_reducible repeat (first | refine zJ ?_ _ | refine zK ?_ | refine zZ ?_ _)); refine zL (cs := #[.int .i64 ((zX l0 x13_1).f0), .int .i64 ((zX l0 x13_1).f1.f0), .int .i64 0, .slice none 0 0]) ?_ 2 _ rfl; (with_reducible repeat (first | refine zJ ?_ _ | refine zK ?_ | refine zZ ?_ _)); refine zL (cs := #[.int .i64 ((zX l0 x13_1).f0), .int .i64 0, .int .i64 0, .slice none 0 0]) ?_ 1 _ rfl; (with_reducible repeat (first | refine zJ ?_ _ | refine zK ?_ | refine zZ ?_ _)); refine zL (cs := #[.int .i64 0, .int .i64 0, .int .i64 0, .slice none 0 0]) ?_ 0 _ rfl; exact zk BK344⟩, ⟨(zb w)⟩⟩
           ·rw [if_neg c14] at H
            exact absurd H (by simp)
          ·rw [if_neg c13] at H
           exact absurd H (by simp)
         ·rw [if_neg c11] at H
          have c11b0 : decide (0 < x13_1) = false := decide_eq_false c11
          clear c11
          (first | rw [c11b0] | (simp only [jw, vL]; rw [c11b0]) | skip)
          have H' := zQ.mk H
          clear H
          go_wp2
          repeat (go_quiet (fail); try go_wp2)
          go_meet
          case rel => exact ⟨_, (false), ar, H', ⟨by have := HK1.out; first | omega | exact Nat.le_refl _⟩, ⟨by (with_reducible repeat (first | refine zJ ?_ _ | refine zK ?_ | refine zZ ?_ _)); refine zL (cs := #[.int .i64 ((zX l0 x13_1).f0), .int .i64 ((zX l0 x13_1).f1.f0), .int .i64 ((zX l0 x13_1).f1.f1), .slice none 0 0]) ?_ 3 _ rfl; (with_reducible repeat (first | refine zJ ?_ _ | refine zK ?_ | refine zZ ?_ _)); refine zL (cs := #[.int .i64 ((zX l0 x13_1).f0), .int .i64 ((zX l0 x13_1).f1.f0), .int .i64 0, .slice none 0 0]) ?_ 2 _ rfl; (with_reducible repeat (first | refine zJ ?_ _ | refine zK ?_ | refine zZ ?_ _)); refine zL (cs := #[.int .i64 ((zX l0 x13_1).f0), .int .i64 0, .int .i64 0, .slice none 0 0]) ?_ 1 _ rfl; (with_reducible repeat (first | refine zJ ?_ _ | refine zK ?_ | refine zZ ?_ _)); refine zL (cs := #[.int .i64 0, .int .i64 0, .int .i64 0, .slice none 0 0]) ?_ 0 _ rfl; exact zk BK344⟩, ⟨(zb w)⟩⟩
        case rest =>
         clear HC8
         try clear c1
         try clear c2
         try clear c2b0
         try clear c2b1
         try clear p2
         try clear c3
         try clear c3b0
         try clear p3
         try clear q3
         try clear hx3
         try clear c4
         try clear c4b0
         try clear c5
         try clear c5b0
         try clear p6
         try clear c7
         try clear c10
         try clear c11
         try clear c11b0
         try clear c13
         try clear c13b0
         try clear c14
         try clear c14b0
         try clear hcz10_0 hcz10_1 hcz10_2 hcz10_3
         try clear hcz15_0 hcz15_1 hcz15_2 hcz15_3
         try clear hfz10_0 hfz10_1 hfz10_2 hfz10_3
         try clear hfz15_0 hfz15_1 hfz15_2 hfz15_3
         try clear hx343_0
         try clear hx343_1
         try clear hx343_2
         try clear hx343_3
         try clear hx346_0
         try clear hx346_1
         try clear hx346_2
         try clear hx346_3
         try clear p2
         try clear p343
         try clear p346
         try clear q343
         try clear q346
         obtain ⟨kq, x34_7, rfl, HA, HJ7, BK344, HB⟩ := hcut
         cases kq with
         | zero => exact absurd HA.out (by simp [zD.j1])
         | succ kj7 =>
          have H := HA.out
          clear HA
          simp only [zD.j1] at H
          by_cases c16 : x34_7 = true
          ·subst c16
           have H1 : (some 8) = some r := by rw [if_pos rfl] at H; exact H
           clear H
           have H := H1
           clear H1
           obtain rfl := Option.some.inj H
           go_wp2
           repeat (go_quiet (fail); try go_wp2)
           go_ret
           exact ⟨by first | rfl | (simp [zq, zY] <;> rfl) | (simp [*, zq, zY] <;> rfl), (zb w)⟩
          ·replace c16 := Bool.eq_false_iff.mpr c16
           subst c16
           have H1 : ((qW.f kj7 ((zX l0 x13_1).f1.f0) ((zX l0 x13_1).f1.f1)).bind fun t347 => (if t347 = 0 then (if (((zX l0 x13_1).f2).length : Int) > 100 then (some 2) else (zD.l1 kj7 l0 l0 (l0.length : Int) x13_1 ((zX l0 x13_1).f2) (((zX l0 x13_1).f2).length : Int) 0 ((zX l0 x13_1).f0) ((zX l0 x13_1).f1.f0) ((zX l0 x13_1).f1.f1) ((zX l0 x13_1).f2))) else (some t347))) = some r := by rw [if_neg (show ¬ (false = true) by decide)] at H; exact H
           clear H
           have H := H1
           clear H1
           replace H := Option.bind_eq_some_iff.mp H
           obtain ⟨t347, A170, H⟩ := H
           try dsimp only at H
           have A17 := zQ.mk A170
           clear A170
           by_cases c18 : t347 = 0
           ·rw [if_pos c18] at H
            have c18b0 : (t347 == 0) = true := beq_iff_eq.mpr c18
            have c18b1 : (t347 != 0) = false := bne_eq_false_iff_eq.mpr c18
            clear c18
            by_cases c19 : (((zX l0 x13_1).f2).length : Int) > 100
            ·rw [if_pos c19] at H
             have c19b0 : decide (100 < (((zX l0 x13_1).f2).length : Int)) = true := decide_eq_true c19
             have c19b1 : decide (100 < ((zX l0 x13_1).f2).length) = true := decide_eq_true (by omega)
             clear c19
             obtain rfl := Option.some.inj H
             obtain ⟨hcz20_0, hcz20_1, hcz20_2, hcz20_3, hfz20_0, hfz20_1, hfz20_2, hfz20_3⟩ := cz4 BK344
             go_wp2_with (first | (go_at_call 33; (with_reducible refine (qW.calls kj7 ((zX l0 x13_1).f1.f0) ((zX l0 x13_1).f1.f1) t347 _ A17.out).mono ?_); rintro e w21 ⟨rfl, hb⟩; replace BK344 := bb BK344 hb; replace HB := hs w hb; (try clear hb); obtain ⟨hcz22_0, hcz22_1, hcz22_2, hcz22_3, hfz22_0, hfz22_1, hfz22_2, hfz22_3⟩ := cz4 BK344))
             repeat (go_quiet (first | (go_at_call 33; (with_reducible refine (qW.calls kj7 ((zX l0 x13_1).f1.f0) ((zX l0 x13_1).f1.f1) t347 _ A17.out).mono ?_); rintro e w21 ⟨rfl, hb⟩; replace BK344 := bb BK344 hb; replace HB := hs w hb; (try clear hb); obtain ⟨hcz22_0, hcz22_1, hcz22_2, hcz22_3, hfz22_0, hfz22_1, hfz22_2, hfz22_3⟩ := cz4 BK344)); try go_wp2_with (first | (go_at_call 33; (with_reducible refine (qW.calls kj7 ((zX l0 x13_1).f1.f0) ((zX l0 x13_1).f1.f1) t347 _ A17.out).mono ?_); rintro e w21 ⟨rfl, hb⟩; replace BK344 := bb BK344 hb; replace HB := hs w hb; (try clear hb); obtain ⟨hcz22_0, hcz22_1, hcz22_2, hcz22_3, hfz22_0, hfz22_1, hfz22_2, hfz22_3⟩ := cz4 BK344)))
             go_ret
             exact ⟨by first | rfl | (simp [zq, zY] <;> rfl) | (simp [*, zq, zY] <;> rfl), (zb w)⟩
            ·rw [if_neg c19] at H
             have c19b0 : decide (100 < (((zX l0 x13_1).f2).length : Int)) = false := decide_eq_false c19
             have c19b1 : decide (100 < ((zX l0 x13_1).f2).length) = false := decide_eq_false (by omega)
             clear c19
             have H' := zQ.mk H
             clear H
             obtain ⟨hcz23_0, hcz23_1, hcz23_2, hcz23_3, hfz23_0, hfz23_1, hfz23_2, hfz23_3⟩ := cz4 BK344
             go_wp2_with (first | (go_at_call 33; (with_reducible refine (qW.calls kj7 ((zX l0 x13_1).f1.f0) ((zX l0 x13_1).f1.f1) t347 _ A17.out).mono ?_); rintro e w24 ⟨rfl, hb⟩; replace BK344 := bb BK344 hb; replace HB := hs w hb; (try clear hb); obtain ⟨hcz25_0, hcz25_1, hcz25_2, hcz25_3, hfz25_0, hfz25_1, hfz25_2, hfz25_3⟩ := cz4 BK344))
             repeat (go_quiet (first | (go_at_call 33; (with_reducible refine (qW.calls kj7 ((zX l0 x13_1).f1.f0) ((zX l0 x13_1).f1.f1) t347 _ A17.out).mono ?_); rintro e w24 ⟨rfl, hb⟩; replace BK344 := bb BK344 hb; replace HB := hs w hb; (try clear hb); obtain ⟨hcz25_0, hcz25_1, hcz25_2, hcz25_3, hfz25_0, hfz25_1, hfz25_2, hfz25_3⟩ := cz4 BK344)); try go_wp2_with (first | (go_at_call 33; (with_reducible refine (qW.calls kj7 ((zX l0 x13_1).f1.f0) ((zX l0 x13_1).f1.f1) t347 _ A17.out).mono ?_); rintro e w24 ⟨rfl, hb⟩; replace BK344 := bb BK344 hb; replace HB := hs w hb; (try clear hb); obtain ⟨hcz25_0, hcz25_1, hcz25_2, hcz25_3, hfz25_0, hfz25_1, hfz25_2, hfz25_3⟩ := cz4 BK344)))
             try simp only [sq]
             go_loopg [48] kj7 (fun kq v48 w' => ∃ (x48_3 : Int), v48 = .int .i64 x48_3 ∧ zQ (zD.l1 kq l0 l0 (l0.length : Int) x13_1 ((zX l0 x13_1).f2) (((zX l0 x13_1).f2).length : Int) x48_3 ((zX l0 x13_1).f0) ((zX l0 x13_1).f1.f0) ((zX l0 x13_1).f1.f1) ((zX l0 x13_1).f2) = some r) ∧ zQ (kq ≤ kj7) ∧ zQ (w'.heap[gb344]? = some (.cells #[.int .i64 ((zX l0 x13_1).f0), .int .i64 ((zX l0 x13_1).f1.f0), .int .i64 ((zX l0 x13_1).f1.f1), (.slice A343_3 ((zX l0 x13_1).f2).length c343_3)] 72 (0, 0))) ∧ zQ (Below w.heap.size w w'))
             case atStart => exact ⟨(0), ar, H', ⟨Nat.le_refl _⟩, ⟨(zk BK344)⟩, ⟨(zb w)⟩⟩
             case round =>
              clear H'
              try clear c1
              try clear c2
              try clear c2b0
              try clear c2b1
              try clear p2
              try clear c3
              try clear c3b0
              try clear p3
              try clear q3
              try clear hx3
              try clear c4
              try clear c4b0
              try clear c5
              try clear c5b0
              try clear p6
              try clear c7
              try clear c10
              try clear c11
              try clear c11b0
              try clear c13
              try clear c13b0
              try clear c14
              try clear c14b0
              try clear c16
              try clear c18
              try clear c18b0
              try clear c18b1
              try clear c19
              try clear c19b0
              try clear c19b1
              try clear hcz10_0 hcz10_1 hcz10_2 hcz10_3
              try clear hcz15_0 hcz15_1 hcz15_2 hcz15_3
              try clear hcz20_0 hcz20_1 hcz20_2 hcz20_3
              try clear hcz22_0 hcz22_1 hcz22_2 hcz22_3
              try clear hcz23_0 hcz23_1 hcz23_2 hcz23_3
              try clear hcz25_0 hcz25_1 hcz25_2 hcz25_3
              try clear hfz10_0 hfz10_1 hfz10_2 hfz10_3
              try clear hfz15_0 hfz15_1 hfz15_2 hfz15_3
              try clear hfz20_0 hfz20_1 hfz20_2 hfz20_3
              try clear hfz22_0 hfz22_1 hfz22_2 hfz22_3
              try clear hfz23_0 hfz23_1 hfz23_2 hfz23_3
              try clear hfz25_0 hfz25_1 hfz25_2 hfz25_3
              try clear hx343_0
              try clear hx343_1
              try clear hx343_2
              try clear hx343_3
              try clear hx346_0
              try clear hx346_1
              try clear hx346_2
              try clear hx346_3
              try clear p2
              try clear p3
              try clear p343
              try clear p346
              try clear p6
              try clear q3
              try clear q343
              try clear q346
              obtain ⟨x48_3, rfl, HA, HK3, BK344, HB⟩ := hrel
              cases gk with
              | zero => exact absurd HA.out (by simp [zD.l1])
              | succ k3 =>
               have H := HA.out
               clear HA
               simp only [zD.l1] at H
               by_cases c26 : x48_3 < (((zX l0 x13_1).f2).length : Int)
               ·rw [if_pos c26] at H
                have c26b0 : decide (x48_3 < (((zX l0 x13_1).f2).length : Int)) = true := decide_eq_true c26
                clear c26
                by_cases c27 : 0 ≤ x48_3
                ·rw [if_pos c27] at H
                 have c27b0 : decide (0 ≤ x48_3) = true := decide_eq_true c27
                 clear c27
                 by_cases c28 : x48_3 < (((zX l0 x13_1).f2).length : Int)
                 ·rw [if_pos c28] at H
                  have c28b0 : decide (x48_3 < (((zX l0 x13_1).f2).length : Int)) = true := decide_eq_true c28
                  clear c28
                  replace H := Option.bind_eq_some_iff.mp H
                  obtain ⟨t349, A290, H⟩ := H
                  try dsimp only at H
                  have A29 := zQ.mk A290
                  clear A290
                  by_cases c30 : t349 = true
                  ·subst c30
                   have H1 : (if x48_3 ≤ (((zX l0 x13_1).f2).length : Int) then ((zN.f k3 (((zX l0 x13_1).f2).take (x48_3 : Int).toNat) (rdOf ByteArray.empty ((zX l0 x13_1).f2) x48_3)).bind fun t351 => (if t351 = true then (some 7) else (zD.l1 k3 l0 l0 (l0.length : Int) x13_1 ((zX l0 x13_1).f2) (((zX l0 x13_1).f2).length : Int) (wrap64 (x48_3 + 1)) ((zX l0 x13_1).f0) ((zX l0 x13_1).f1.f0) ((zX l0 x13_1).f1.f1) ((zX l0 x13_1).f2)))) else (none)) = some r := by rw [if_pos rfl] at H; exact H
                   clear H
                   have H := H1
                   clear H1
                   have c31b0 := eq_true (of_decide_eq_true (by assumption) : 0 ≤ x48_3)
                   by_cases c32 : x48_3 ≤ (((zX l0 x13_1).f2).length : Int)
                   ·rw [if_pos c32] at H
                    have c32b0 := eq_true c32
                    have c32b1 : decide (x48_3 ≤ (((zX l0 x13_1).f2).length : Int)) = true := decide_eq_true c32
                    clear c32
                    replace H := Option.bind_eq_some_iff.mp H
                    obtain ⟨t351, A330, H⟩ := H
                    try dsimp only at H
                    have A33 := zQ.mk A330
                    clear A330
                    by_cases c34 : t351 = true
                    ·subst c34
                     have H1 : (some 7) = some r := by rw [if_pos rfl] at H; exact H
                     clear H
                     have H := H1
                     clear H1
                     obtain rfl := Option.some.inj H
                     have p348 : 0 ≤ (x48_3 : Int) := of_decide_eq_true (by assumption)
                     have q348 : x48_3 < (((zX l0 x13_1).f2).length : Int) := of_decide_eq_true (by assumption)
                     obtain ⟨ad348, e348, hx348_0⟩ := Kd.yD HR343_3.out x48_3 p348 q348
                     cases e348
                     replace hx348_0 := hz HB hx348_0
                     replace p348 := eq_true p348
                     replace q348 := eq_true q348
                     go_wp2_with (first | (go_at_call 29; (with_reducible refine (jV.calls (rdOf ByteArray.empty ((zX l0 x13_1).f2) x48_3) true _ A29.out).mono ?_); rintro e w35 ⟨rfl, hb⟩; replace BK344 := bb BK344 hb; replace HB := hs w hb; (try clear hb); obtain ⟨hcz36_0, hcz36_1, hcz36_2, hcz36_3, hfz36_0, hfz36_1, hfz36_2, hfz36_3⟩ := cz4 BK344; obtain ⟨i037, hi037, _, hsz37, _⟩ := info_parts zVq; obtain ⟨hcut37, hA37, hC37⟩ := xX (P := Tryz.prog) Value.string (⟨#[]⟩ : ByteArray) 70 9 .i64 Tryz.underlying70 hi037 hsz37 (some ad348) c343_3 ((zX l0 x13_1).f2) x48_3 (of_decide_eq_true (by assumption)) (of_decide_eq_true (by assumption)) HC343_3.out; have HR350 := zQ.mk (Kd.vB (h1 := fun _ => rfl) (hA37 _ (Kd.xN HR343_3.out))); have HC350 := zQ.mk hC37; clear hA37 hC37 hi037 hsz37) | (go_at_call 35; refine xY (args' := #[.slice (some ad348) (((zX l0 x13_1).f2).take (x48_3 : Int).toNat).length c343_3, .string (rdOf ByteArray.empty ((zX l0 x13_1).f2) x48_3)]) (by first | (rw [show (((zX l0 x13_1).f2).take (x48_3 : Int).toNat).length = x48_3.toNat from (by rw [List.length_take]; have h_ : (x48_3 : Int) ≤ (((zX l0 x13_1).f2).length : Int) := of_decide_eq_true (by assumption); omega)] <;> rfl) | rfl) ?_; (with_reducible refine (zN.calls k3 _ _ (((zX l0 x13_1).f2).take (x48_3 : Int).toNat) (rdOf ByteArray.empty ((zX l0 x13_1).f2) x48_3) true _ ?side1 HC350.out A33.out).mono ?_); (case side1 => exact zc HR350); rintro e w' ⟨rfl, ⟨nd, rfl⟩⟩; (try first | exact ⟨rfl, _, World.drewN_drewN _ _ _⟩ | exact ⟨rfl, _, Eq.trans (World.drewN_drewN _ _ _) (congrArg (World.drewN _) (Nat.add_assoc _ _ _))⟩)))
                     repeat (go_quiet (first | (go_at_call 29; (with_reducible refine (jV.calls (rdOf ByteArray.empty ((zX l0 x13_1).f2) x48_3) true _ A29.out).mono ?_); rintro e w35 ⟨rfl, hb⟩; replace BK344 := bb BK344 hb; replace HB := hs w hb; (try clear hb); obtain ⟨hcz36_0, hcz36_1, hcz36_2, hcz36_3, hfz36_0, hfz36_1, hfz36_2, hfz36_3⟩ := cz4 BK344; obtain ⟨i037, hi037, _, hsz37, _⟩ := info_parts zVq; obtain ⟨hcut37, hA37, hC37⟩ := xX (P := Tryz.prog) Value.string (⟨#[]⟩ : ByteArray) 70 9 .i64 Tryz.underlying70 hi037 hsz37 (some ad348) c343_3 ((zX l0 x13_1).f2) x48_3 (of_decide_eq_true (by assumption)) (of_decide_eq_true (by assumption)) HC343_3.out; have HR350 := zQ.mk (Kd.vB (h1 := fun _ => rfl) (hA37 _ (Kd.xN HR343_3.out))); have HC350 := zQ.mk hC37; clear hA37 hC37 hi037 hsz37) | (go_at_call 35; refine xY (args' := #[.slice (some ad348) (((zX l0 x13_1).f2).take (x48_3 : Int).toNat).length c343_3, .string (rdOf ByteArray.empty ((zX l0 x13_1).f2) x48_3)]) (by first | (rw [show (((zX l0 x13_1).f2).take (x48_3 : Int).toNat).length = x48_3.toNat from (by rw [List.length_take]; have h_ : (x48_3 : Int) ≤ (((zX l0 x13_1).f2).length : Int) := of_decide_eq_true (by assumption); omega)] <;> rfl) | rfl) ?_; (with_reducible refine (zN.calls k3 _ _ (((zX l0 x13_1).f2).take (x48_3 : Int).toNat) (rdOf ByteArray.empty ((zX l0 x13_1).f2) x48_3) true _ ?side1 HC350.out A33.out).mono ?_); (case side1 => exact zc HR350); rintro e w' ⟨rfl, ⟨nd, rfl⟩⟩; (try first | exact ⟨rfl, _, World.drewN_drewN _ _ _⟩ | exact ⟨rfl, _, Eq.trans (World.drewN_drewN _ _ _) (congrArg (World.drewN _) (Nat.add_assoc _ _ _))⟩))); try go_wp2_with (first | (go_at_call 29; (with_reducible refine (jV.calls (rdOf ByteArray.empty ((zX l0 x13_1).f2) x48_3) true _ A29.out).mono ?_); rintro e w35 ⟨rfl, hb⟩; replace BK344 := bb BK344 hb; replace HB := hs w hb; (try clear hb); obtain ⟨hcz36_0, hcz36_1, hcz36_2, hcz36_3, hfz36_0, hfz36_1, hfz36_2, hfz36_3⟩ := cz4 BK344; obtain ⟨i037, hi037, _, hsz37, _⟩ := info_parts zVq; obtain ⟨hcut37, hA37, hC37⟩ := xX (P := Tryz.prog) Value.string (⟨#[]⟩ : ByteArray) 70 9 .i64 Tryz.underlying70 hi037 hsz37 (some ad348) c343_3 ((zX l0 x13_1).f2) x48_3 (of_decide_eq_true (by assumption)) (of_decide_eq_true (by assumption)) HC343_3.out; have HR350 := zQ.mk (Kd.vB (h1 := fun _ => rfl) (hA37 _ (Kd.xN HR343_3.out))); have HC350 := zQ.mk hC37; clear hA37 hC37 hi037 hsz37) | (go_at_call 35; refine xY (args' := #[.slice (some ad348) (((zX l0 x13_1).f2).take (x48_3 : Int).toNat).length c343_3, .string (rdOf ByteArray.empty ((zX l0 x13_1).f2) x48_3)]) (by first | (rw [show (((zX l0 x13_1).f2).take (x48_3 : Int).toNat).length = x48_3.toNat from (by rw [List.length_take]; have h_ : (x48_3 : Int) ≤ (((zX l0 x13_1).f2).length : Int) := of_decide_eq_true (by assumption); omega)] <;> rfl) | rfl) ?_; (with_reducible refine (zN.calls k3 _ _ (((zX l0 x13_1).f2).take (x48_3 : Int).toNat) (rdOf ByteArray.empty ((zX l0 x13_1).f2) x48_3) true _ ?side1 HC350.out A33.out).mono ?_); (case side1 => exact zc HR350); rintro e w' ⟨rfl, ⟨nd, rfl⟩⟩; (try first | exact ⟨rfl, _, World.drewN_drewN _ _ _⟩ | exact ⟨rfl, _, Eq.trans (World.drewN_drewN _ _ _) (congrArg (World.drewN _) (Nat.add_assoc _ _ _))⟩))))
                     go_ret
                     exact ⟨by first | rfl | (simp [zq, zY] <;> rfl) | (simp [*, zq, zY] <;> rfl), (zb w)⟩
                    ·replace c34 := Bool.eq_false_iff.mpr c34
                     subst c34
                     have H1 : (zD.l1 k3 l0 l0 (l0.length : Int) x13_1 ((zX l0 x13_1).f2) (((zX l0 x13_1).f2).length : Int) (wrap64 (x48_3 + 1)) ((zX l0 x13_1).f0) ((zX l0 x13_1).f1.f0) ((zX l0 x13_1).f1.f1) ((zX l0 x13_1).f2)) = some r := by rw [if_neg (show ¬ (false = true) by decide)] at H; exact H
                     clear H
                     have H := H1
                     clear H1
                     have H' := zQ.mk H
                     clear H
                     have p348 : 0 ≤ (x48_3 : Int) := of_decide_eq_true (by assumption)
                     have q348 : x48_3 < (((zX l0 x13_1).f2).length : Int) := of_decide_eq_true (by assumption)
                     obtain ⟨ad348, e348, hx348_0⟩ := Kd.yD HR343_3.out x48_3 p348 q348
                     cases e348
                     replace hx348_0 := hz HB hx348_0
                     replace p348 := eq_true p348
                     replace q348 := eq_true q348
                     go_wp2_with (first | (go_at_call 29; (with_reducible refine (jV.calls (rdOf ByteArray.empty ((zX l0 x13_1).f2) x48_3) true _ A29.out).mono ?_); rintro e w38 ⟨rfl, hb⟩; replace BK344 := bb BK344 hb; replace HB := hs w hb; (try clear hb); obtain ⟨hcz39_0, hcz39_1, hcz39_2, hcz39_3, hfz39_0, hfz39_1, hfz39_2, hfz39_3⟩ := cz4 BK344; obtain ⟨i040, hi040, _, hsz40, _⟩ := info_parts zVq; obtain ⟨hcut40, hA40, hC40⟩ := xX (P := Tryz.prog) Value.string (⟨#[]⟩ : ByteArray) 70 9 .i64 Tryz.underlying70 hi040 hsz40 (some ad348) c343_3 ((zX l0 x13_1).f2) x48_3 (of_decide_eq_true (by assumption)) (of_decide_eq_true (by assumption)) HC343_3.out; have HR350 := zQ.mk (Kd.vB (h1 := fun _ => rfl) (hA40 _ (Kd.xN HR343_3.out))); have HC350 := zQ.mk hC40; clear hA40 hC40 hi040 hsz40) | (go_at_call 35; refine xY (args' := #[.slice (some ad348) (((zX l0 x13_1).f2).take (x48_3 : Int).toNat).length c343_3, .string (rdOf ByteArray.empty ((zX l0 x13_1).f2) x48_3)]) (by first | (rw [show (((zX l0 x13_1).f2).take (x48_3 : Int).toNat).length = x48_3.toNat from (by rw [List.length_take]; have h_ : (x48_3 : Int) ≤ (((zX l0 x13_1).f2).length : Int) := of_decide_eq_true (by assumption); omega)] <;> rfl) | rfl) ?_; (with_reducible refine (zN.calls k3 _ _ (((zX l0 x13_1).f2).take (x48_3 : Int).toNat) (rdOf ByteArray.empty ((zX l0 x13_1).f2) x48_3) false _ ?side1 HC350.out A33.out).mono ?_); (case side1 => exact zc HR350); rintro e w' ⟨rfl, ⟨nd, rfl⟩⟩; (try first | exact ⟨rfl, _, World.drewN_drewN _ _ _⟩ | exact ⟨rfl, _, Eq.trans (World.drewN_drewN _ _ _) (congrArg (World.drewN _) (Nat.add_assoc _ _ _))⟩)))
                     repeat (go_quiet (first | (go_at_call 29; (with_reducible refine (jV.calls (rdOf ByteArray.empty ((zX l0 x13_1).f2) x48_3) true _ A29.out).mono ?_); rintro e w38 ⟨rfl, hb⟩; replace BK344 := bb BK344 hb; replace HB := hs w hb; (try clear hb); obtain ⟨hcz39_0, hcz39_1, hcz39_2, hcz39_3, hfz39_0, hfz39_1, hfz39_2, hfz39_3⟩ := cz4 BK344; obtain ⟨i040, hi040, _, hsz40, _⟩ := info_parts zVq; obtain ⟨hcut40, hA40, hC40⟩ := xX (P := Tryz.prog) Value.string (⟨#[]⟩ : ByteArray) 70 9 .i64 Tryz.underlying70 hi040 hsz40 (some ad348) c343_3 ((zX l0 x13_1).f2) x48_3 (of_decide_eq_true (by assumption)) (of_decide_eq_true (by assumption)) HC343_3.out; have HR350 := zQ.mk (Kd.vB (h1 := fun _ => rfl) (hA40 _ (Kd.xN HR343_3.out))); have HC350 := zQ.mk hC40; clear hA40 hC40 hi040 hsz40) | (go_at_call 35; refine xY (args' := #[.slice (some ad348) (((zX l0 x13_1).f2).take (x48_3 : Int).toNat).length c343_3, .string (rdOf ByteArray.empty ((zX l0 x13_1).f2) x48_3)]) (by first | (rw [show (((zX l0 x13_1).f2).take (x48_3 : Int).toNat).length = x48_3.toNat from (by rw [List.length_take]; have h_ : (x48_3 : Int) ≤ (((zX l0 x13_1).f2).length : Int) := of_decide_eq_true (by assumption); omega)] <;> rfl) | rfl) ?_; (with_reducible refine (zN.calls k3 _ _ (((zX l0 x13_1).f2).take (x48_3 : Int).toNat) (rdOf ByteArray.empty ((zX l0 x13_1).f2) x48_3) false _ ?side1 HC350.out A33.out).mono ?_); (case side1 => exact zc HR350); rintro e w' ⟨rfl, ⟨nd, rfl⟩⟩; (try first | exact ⟨rfl, _, World.drewN_drewN _ _ _⟩ | exact ⟨rfl, _, Eq.trans (World.drewN_drewN _ _ _) (congrArg (World.drewN _) (Nat.add_assoc _ _ _))⟩))); try go_wp2_with (first | (go_at_call 29; (with_reducible refine (jV.calls (rdOf ByteArray.empty ((zX l0 x13_1).f2) x48_3) true _ A29.out).mono ?_); rintro e w38 ⟨rfl, hb⟩; replace BK344 := bb BK344 hb; replace HB := hs w hb; (try clear hb); obtain ⟨hcz39_0, hcz39_1, hcz39_2, hcz39_3, hfz39_0, hfz39_1, hfz39_2, hfz39_3⟩ := cz4 BK344; obtain ⟨i040, hi040, _, hsz40, _⟩ := info_parts zVq; obtain ⟨hcut40, hA40, hC40⟩ := xX (P := Tryz.prog) Value.string (⟨#[]⟩ : ByteArray) 70 9 .i64 Tryz.underlying70 hi040 hsz40 (some ad348) c343_3 ((zX l0 x13_1).f2) x48_3 (of_decide_eq_true (by assumption)) (of_decide_eq_true (by assumption)) HC343_3.out; have HR350 := zQ.mk (Kd.vB (h1 := fun _ => rfl) (hA40 _ (Kd.xN HR343_3.out))); have HC350 := zQ.mk hC40; clear hA40 hC40 hi040 hsz40) | (go_at_call 35; refine xY (args' := #[.slice (some ad348) (((zX l0 x13_1).f2).take (x48_3 : Int).toNat).length c343_3, .string (rdOf ByteArray.empty ((zX l0 x13_1).f2) x48_3)]) (by first | (rw [show (((zX l0 x13_1).f2).take (x48_3 : Int).toNat).length = x48_3.toNat from (by rw [List.length_take]; have h_ : (x48_3 : Int) ≤ (((zX l0 x13_1).f2).length : Int) := of_decide_eq_true (by assumption); omega)] <;> rfl) | rfl) ?_; (with_reducible refine (zN.calls k3 _ _ (((zX l0 x13_1).f2).take (x48_3 : Int).toNat) (rdOf ByteArray.empty ((zX l0 x13_1).f2) x48_3) false _ ?side1 HC350.out A33.out).mono ?_); (case side1 => exact zc HR350); rintro e w' ⟨rfl, ⟨nd, rfl⟩⟩; (try first | exact ⟨rfl, _, World.drewN_drewN _ _ _⟩ | exact ⟨rfl, _, Eq.trans (World.drewN_drewN _ _ _) (congrArg (World.drewN _) (Nat.add_assoc _ _ _))⟩))))
                     go_roundg k3
                     case measure => have := HK1.out; have := HJ7.out; have := HK3.out; omega
                     case rel => exact ⟨(wrap64 (x48_3 + 1)), ar, H', ⟨by have := HK1.out; have := HJ7.out; have := HK3.out; omega⟩, ⟨(zk BK344)⟩, ⟨(zb w)⟩⟩
                   ·rw [if_neg c32] at H
                    exact absurd H (by simp)
                  ·replace c30 := Bool.eq_false_iff.mpr c30
                   subst c30
                   have H1 : (some 5) = some r := by rw [if_neg (show ¬ (false = true) by decide)] at H; exact H
                   clear H
                   have H := H1
                   clear H1
                   obtain rfl := Option.some.inj H
                   have p348 : 0 ≤ (x48_3 : Int) := of_decide_eq_true (by assumption)
                   have q348 : x48_3 < (((zX l0 x13_1).f2).length : Int) := of_decide_eq_true (by assumption)
                   obtain ⟨ad348, e348, hx348_0⟩ := Kd.yD HR343_3.out x48_3 p348 q348
                   cases e348
                   replace hx348_0 := hz HB hx348_0
                   replace p348 := eq_true p348
                   replace q348 := eq_true q348
                   go_wp2_with (first | (go_at_call 29; (with_reducible refine (jV.calls (rdOf ByteArray.empty ((zX l0 x13_1).f2) x48_3) false _ A29.out).mono ?_); rintro e w41 ⟨rfl, hb⟩; replace BK344 := bb BK344 hb; replace HB := hs w hb; (try clear hb)))
                   repeat (go_quiet (first | (go_at_call 29; (with_reducible refine (jV.calls (rdOf ByteArray.empty ((zX l0 x13_1).f2) x48_3) false _ A29.out).mono ?_); rintro e w41 ⟨rfl, hb⟩; replace BK344 := bb BK344 hb; replace HB := hs w hb; (try clear hb))); try go_wp2_with (first | (go_at_call 29; (with_reducible refine (jV.calls (rdOf ByteArray.empty ((zX l0 x13_1).f2) x48_3) false _ A29.out).mono ?_); rintro e w41 ⟨rfl, hb⟩; replace BK344 := bb BK344 hb; replace HB := hs w hb; (try clear hb))))
                   go_ret
                   exact ⟨by first | rfl | (simp [zq, zY] <;> rfl) | (simp [*, zq, zY] <;> rfl), (zb w)⟩
                 ·rw [if_neg c28] at H
                  exact absurd H (by simp)
                ·rw [if_neg c27] at H
                 exact absurd H (by simp)
               ·rw [if_neg c26] at H
                have c26b0 : decide (x48_3 < (((zX l0 x13_1).f2).length : Int)) = false := decide_eq_false c26
                clear c26
                have H' := zQ.mk H
                clear H
                go_wp2
                repeat (go_quiet (fail); try go_wp2)
                go_roundg k3
                case measure => have := HK1.out; have := HJ7.out; have := HK3.out; omega
                case rel => exact ⟨(wrap64 (x13_1 + 1)), ar, H', ⟨by have := HK1.out; have := HJ7.out; have := HK3.out; omega⟩, ⟨(zb w)⟩⟩
           ·rw [if_neg c18] at H
            have c18b0 : (t347 == 0) = false := beq_eq_false_iff_ne.mpr c18
            have c18b1 : (t347 != 0) = true := bne_iff_ne.mpr c18
            obtain rfl := Option.some.inj H
            obtain ⟨hcz42_0, hcz42_1, hcz42_2, hcz42_3, hfz42_0, hfz42_1, hfz42_2, hfz42_3⟩ := cz4 BK344
            go_wp2_with (first | (go_at_call 33; (with_reducible refine (qW.calls kj7 ((zX l0 x13_1).f1.f0) ((zX l0 x13_1).f1.f1) t347 _ A17.out).mono ?_); rintro e w43 ⟨rfl, hb⟩; replace BK344 := bb BK344 hb; replace HB := hs w hb; (try clear hb)))
            repeat (go_quiet (first | (go_at_call 33; (with_reducible refine (qW.calls kj7 ((zX l0 x13_1).f1.f0) ((zX l0 x13_1).f1.f1) t347 _ A17.out).mono ?_); rintro e w43 ⟨rfl, hb⟩; replace BK344 := bb BK344 hb; replace HB := hs w hb; (try clear hb))); try go_wp2_with (first | (go_at_call 33; (with_reducible refine (qW.calls kj7 ((zX l0 x13_1).f1.f0) ((zX l0 x13_1).f1.f1) t347 _ A17.out).mono ?_); rintro e w43 ⟨rfl, hb⟩; replace BK344 := bb BK344 hb; replace HB := hs w hb; (try clear hb))))
            go_ret
            exact ⟨by first | rfl | (simp [zq, zY] <;> rfl) | (simp [*, zq, zY] <;> rfl), (zb w)⟩
       ·replace c7 := Bool.eq_false_iff.mpr c7
        subst c7
        have H1 : (some 1) = some r := by rw [if_neg (show ¬ (false = true) by decide)] at H; exact H
        clear H
        have H := H1
        clear H1
        obtain rfl := Option.some.inj H
        have p343 : 0 ≤ (x13_1 : Int) := of_decide_eq_true (by assumption)
        have q343 : x13_1 < (l0.length : Int) := of_decide_eq_true (by assumption)
        obtain ⟨ad343, A343_3, c343_3, e343, hx343_0, hx343_1, hx343_2, hx343_3, hl343_3, hi343_3⟩ := zKl HR0.out x13_1 p343 q343
        cases e343
        replace hx343_0 := hz HB hx343_0
        replace hx343_1 := hz HB hx343_1
        replace hx343_2 := hz HB hx343_2
        replace hx343_3 := hz HB hx343_3
        have HR343_3 := zQ.mk hi343_3
        have HC343_3 := zQ.mk hl343_3
        clear hi343_3 hl343_3
        replace p343 := eq_true p343
        replace q343 := eq_true q343
        go_wp2_with (first | ((with_reducible refine gD 4 rfl ?_); refine bx w 4 #[.int .i64 0, .int .i64 0, .int .i64 0, .slice none 0 0] 72 ?_; intro gb344 hg w44 hb BK344 GW344 GE344; clear HB; intro HB; clear hb hg; obtain ⟨hcz45_0, hcz45_1, hcz45_2, hcz45_3, hfz45_0, hfz45_1, hfz45_2, hfz45_3⟩ := cz4 BK344) | (go_at_call 32; (with_reducible refine (jM.calls ((zX l0 x13_1).f0) false _ A6.out).mono ?_); rintro e w' ⟨rfl, ⟨nd, rfl⟩⟩; (try first | exact ⟨rfl, _, World.drewN_drewN _ _ _⟩ | exact ⟨rfl, _, Eq.trans (World.drewN_drewN _ _ _) (congrArg (World.drewN _) (Nat.add_assoc _ _ _))⟩)))
        repeat (go_quiet (first | ((with_reducible refine gD 4 rfl ?_); refine bx w 4 #[.int .i64 0, .int .i64 0, .int .i64 0, .slice none 0 0] 72 ?_; intro gb344 hg w44 hb BK344 GW344 GE344; clear HB; intro HB; clear hb hg; obtain ⟨hcz45_0, hcz45_1, hcz45_2, hcz45_3, hfz45_0, hfz45_1, hfz45_2, hfz45_3⟩ := cz4 BK344) | (go_at_call 32; (with_reducible refine (jM.calls ((zX l0 x13_1).f0) false _ A6.out).mono ?_); rintro e w' ⟨rfl, ⟨nd, rfl⟩⟩; (try first | exact ⟨rfl, _, World.drewN_drewN _ _ _⟩ | exact ⟨rfl, _, Eq.trans (World.drewN_drewN _ _ _) (congrArg (World.drewN _) (Nat.add_assoc _ _ _))⟩))); try go_wp2_with (first | ((with_reducible refine gD 4 rfl ?_); refine bx w 4 #[.int .i64 0, .int .i64 0, .int .i64 0, .slice none 0 0] 72 ?_; intro gb344 hg w44 hb BK344 GW344 GE344; clear HB; intro HB; clear hb hg; obtain ⟨hcz45_0, hcz45_1, hcz45_2, hcz45_3, hfz45_0, hfz45_1, hfz45_2, hfz45_3⟩ := cz4 BK344) | (go_at_call 32; (with_reducible refine (jM.calls ((zX l0 x13_1).f0) false _ A6.out).mono ?_); rintro e w' ⟨rfl, ⟨nd, rfl⟩⟩; (try first | exact ⟨rfl, _, World.drewN_drewN _ _ _⟩ | exact ⟨rfl, _, Eq.trans (World.drewN_drewN _ _ _) (congrArg (World.drewN _) (Nat.add_assoc _ _ _))⟩))))
        go_ret
        exact ⟨by first | rfl | (simp [zq, zY] <;> rfl) | (simp [*, zq, zY] <;> rfl), (zb w)⟩
      ·rw [if_neg c5] at H
       exact absurd H (by simp)
     ·rw [if_neg c4] at H
      exact absurd H (by simp)
    ·rw [if_neg c3] at H
     have c3b0 : decide (x13_1 < (l0.length : Int)) = false := decide_eq_false c3
     clear c3
     obtain rfl := Option.some.inj H
     go_wp2
     repeat (go_quiet (fail); try go_wp2)
     go_ret
     exact ⟨by first | rfl | (simp [zq, zY] <;> rfl) | (simp [*, zq, zY] <;> rfl), (zb w)⟩
def xE (w0 W : World) (g : Nat) (f0 : ByteArray) (f1 : Int) (f2 : Int) (f3 : Int) (f4 : Int) (f5 : Int) (f6 : Int) (f7 : Int) (f8 : Int) (f9 : Int) (f10 : Int) : Prop := W.heap[g]? = some (.cells #[.string f0, .int .i64 f1, .int .i64 f2, .int .i64 f3, .int .i64 f4, .int .i64 f5, .int .i64 f6, .int .i64 f7, .int .i64 f8, .int .i64 f9, .int .i64 f10] 62 (0, 0)) ∧ w0.heap.size ≤ g
theorem xE.drewN {w0 W : World} {g : Nat} {f0 : ByteArray} {f1 : Int} {f2 : Int} {f3 : Int} {f4 : Int} {f5 : Int} {f6 : Int} {f7 : Int} {f8 : Int} {f9 : Int} {f10 : Int} (h : xE w0 W g f0 f1 f2 f3 f4 f5 f6 f7 f8 f9 f10) (m : Nat) : xE w0 (W.drewN m) g f0 f1 f2 f3 f4 f5 f6 f7 f8 f9 f10 := h
theorem zXj {W : World} {g : Nat} {f0 : ByteArray} {f1 : Int} {f2 : Int} {f3 : Int} {f4 : Int} {f5 : Int} {f6 : Int} {f7 : Int} {f8 : Int} {f9 : Int} {f10 : Int} (h : W.heap[g]? = some (.cells #[.string f0, .int .i64 f1, .int .i64 f2, .int .i64 f3, .int .i64 f4, .int .i64 f5, .int .i64 f6, .int .i64 f7, .int .i64 f8, .int .i64 f9, .int .i64 f10] 62 (0, 0))) : W.cell? ⟨g, 0, none⟩ = some (.string f0) := (zx h 0).trans rfl
theorem ky {W : World} {g : Nat} {f0 : ByteArray} {f1 : Int} {f2 : Int} {f3 : Int} {f4 : Int} {f5 : Int} {f6 : Int} {f7 : Int} {f8 : Int} {f9 : Int} {f10 : Int} (h : W.heap[g]? = some (.cells #[.string f0, .int .i64 f1, .int .i64 f2, .int .i64 f3, .int .i64 f4, .int .i64 f5, .int .i64 f6, .int .i64 f7, .int .i64 f8, .int .i64 f9, .int .i64 f10] 62 (0, 0))) : W.cell? ⟨g, 1, none⟩ = some (.int .i64 f1) := (zx h 1).trans rfl
theorem zXz {W : World} {g : Nat} {f0 : ByteArray} {f1 : Int} {f2 : Int} {f3 : Int} {f4 : Int} {f5 : Int} {f6 : Int} {f7 : Int} {f8 : Int} {f9 : Int} {f10 : Int} (h : W.heap[g]? = some (.cells #[.string f0, .int .i64 f1, .int .i64 f2, .int .i64 f3, .int .i64 f4, .int .i64 f5, .int .i64 f6, .int .i64 f7, .int .i64 f8, .int .i64 f9, .int .i64 f10] 62 (0, 0))) : W.cell? ⟨g, 2, none⟩ = some (.int .i64 f2) := (zx h 2).trans rfl
theorem zXq {W : World} {g : Nat} {f0 : ByteArray} {f1 : Int} {f2 : Int} {f3 : Int} {f4 : Int} {f5 : Int} {f6 : Int} {f7 : Int} {f8 : Int} {f9 : Int} {f10 : Int} (h : W.heap[g]? = some (.cells #[.string f0, .int .i64 f1, .int .i64 f2, .int .i64 f3, .int .i64 f4, .int .i64 f5, .int .i64 f6, .int .i64 f7, .int .i64 f8, .int .i64 f9, .int .i64 f10] 62 (0, 0))) : W.cell? ⟨g, 3, none⟩ = some (.int .i64 f3) := (zx h 3).trans rfl
theorem zJv {W : World} {g : Nat} {f0 : ByteArray} {f1 : Int} {f2 : Int} {f3 : Int} {f4 : Int} {f5 : Int} {f6 : Int} {f7 : Int} {f8 : Int} {f9 : Int} {f10 : Int} (h : W.heap[g]? = some (.cells #[.string f0, .int .i64 f1, .int .i64 f2, .int .i64 f3, .int .i64 f4, .int .i64 f5, .int .i64 f6, .int .i64 f7, .int .i64 f8, .int .i64 f9, .int .i64 f10] 62 (0, 0))) : W.cell? ⟨g, 4, none⟩ = some (.int .i64 f4) := (zx h 4).trans rfl
theorem zQk {W : World} {g : Nat} {f0 : ByteArray} {f1 : Int} {f2 : Int} {f3 : Int} {f4 : Int} {f5 : Int} {f6 : Int} {f7 : Int} {f8 : Int} {f9 : Int} {f10 : Int} (h : W.heap[g]? = some (.cells #[.string f0, .int .i64 f1, .int .i64 f2, .int .i64 f3, .int .i64 f4, .int .i64 f5, .int .i64 f6, .int .i64 f7, .int .i64 f8, .int .i64 f9, .int .i64 f10] 62 (0, 0))) : W.cell? ⟨g, 5, none⟩ = some (.int .i64 f5) := (zx h 5).trans rfl
theorem zWn {W : World} {g : Nat} {f0 : ByteArray} {f1 : Int} {f2 : Int} {f3 : Int} {f4 : Int} {f5 : Int} {f6 : Int} {f7 : Int} {f8 : Int} {f9 : Int} {f10 : Int} (h : W.heap[g]? = some (.cells #[.string f0, .int .i64 f1, .int .i64 f2, .int .i64 f3, .int .i64 f4, .int .i64 f5, .int .i64 f6, .int .i64 f7, .int .i64 f8, .int .i64 f9, .int .i64 f10] 62 (0, 0))) : W.cell? ⟨g, 6, none⟩ = some (.int .i64 f6) := (zx h 6).trans rfl
theorem uK {W : World} {g : Nat} {f0 : ByteArray} {f1 : Int} {f2 : Int} {f3 : Int} {f4 : Int} {f5 : Int} {f6 : Int} {f7 : Int} {f8 : Int} {f9 : Int} {f10 : Int} (h : W.heap[g]? = some (.cells #[.string f0, .int .i64 f1, .int .i64 f2, .int .i64 f3, .int .i64 f4, .int .i64 f5, .int .i64 f6, .int .i64 f7, .int .i64 f8, .int .i64 f9, .int .i64 f10] 62 (0, 0))) : W.cell? ⟨g, 7, none⟩ = some (.int .i64 f7) := (zx h 7).trans rfl
theorem zQj {W : World} {g : Nat} {f0 : ByteArray} {f1 : Int} {f2 : Int} {f3 : Int} {f4 : Int} {f5 : Int} {f6 : Int} {f7 : Int} {f8 : Int} {f9 : Int} {f10 : Int} (h : W.heap[g]? = some (.cells #[.string f0, .int .i64 f1, .int .i64 f2, .int .i64 f3, .int .i64 f4, .int .i64 f5, .int .i64 f6, .int .i64 f7, .int .i64 f8, .int .i64 f9, .int .i64 f10] 62 (0, 0))) : W.cell? ⟨g, 8, none⟩ = some (.int .i64 f8) := (zx h 8).trans rfl
theorem zJk {W : World} {g : Nat} {f0 : ByteArray} {f1 : Int} {f2 : Int} {f3 : Int} {f4 : Int} {f5 : Int} {f6 : Int} {f7 : Int} {f8 : Int} {f9 : Int} {f10 : Int} (h : W.heap[g]? = some (.cells #[.string f0, .int .i64 f1, .int .i64 f2, .int .i64 f3, .int .i64 f4, .int .i64 f5, .int .i64 f6, .int .i64 f7, .int .i64 f8, .int .i64 f9, .int .i64 f10] 62 (0, 0))) : W.cell? ⟨g, 9, none⟩ = some (.int .i64 f9) := (zx h 9).trans rfl
theorem uz {W : World} {g : Nat} {f0 : ByteArray} {f1 : Int} {f2 : Int} {f3 : Int} {f4 : Int} {f5 : Int} {f6 : Int} {f7 : Int} {f8 : Int} {f9 : Int} {f10 : Int} (h : W.heap[g]? = some (.cells #[.string f0, .int .i64 f1, .int .i64 f2, .int .i64 f3, .int .i64 f4, .int .i64 f5, .int .i64 f6, .int .i64 f7, .int .i64 f8, .int .i64 f9, .int .i64 f10] 62 (0, 0))) : W.cell? ⟨g, 10, none⟩ = some (.int .i64 f10) := (zx h 10).trans rfl
def vM.f (s0_0 : ByteArray) (s0_1 : Int) (s0_2 : Int) (s0_3 : Int) (s0_4 : Int) (s0_5 : Int) (s0_6 : Int) (s0_7 : Int) (s0_8 : Int) (s0_9 : Int) (s0_10 : Int) (a1 : Int) : Option (Bool × ByteArray × Int × Int × Int × Int × Int × Int × Int × Int × Int × Int) := if s0_1 ≤ a1 then (some ((s0_10 == 0), s0_0, s0_1, s0_2, s0_3, s0_4, s0_5, s0_6, s0_7, s0_8, s0_9, s0_10)) else (some (false, s0_0, s0_1, s0_2, s0_3, s0_4, s0_5, s0_6, s0_7, s0_8, s0_9, s0_10))
theorem vM.calls (g : Nat) (s0_0 : ByteArray) (s0_1 : Int) (s0_2 : Int) (s0_3 : Int) (s0_4 : Int) (s0_5 : Int) (s0_6 : Int) (s0_7 : Int) (s0_8 : Int) (s0_9 : Int) (s0_10 : Int) (a1 : Int) (r1 : Bool) (r2 : ByteArray) (r3 : Int) (r4 : Int) (r5 : Int) (r6 : Int) (r7 : Int) (r8 : Int) (r9 : Int) (r10 : Int) (r11 : Int) (r12 : Int) (w0 w : World) (hI : xE w0 w g s0_0 s0_1 s0_2 s0_3 s0_4 s0_5 s0_6 s0_7 s0_8 s0_9 s0_10) (hB : Below w0.heap.size w0 w) (h : vM.f s0_0 s0_1 s0_2 s0_3 s0_4 s0_5 s0_6 s0_7 s0_8 s0_9 s0_10 a1 = some (r1, r2, r3, r4, r5, r6, r7, r8, r9, r10, r11, r12)) :
  Calls Tryz.prog 37 #[.pointer (some ⟨g, 0, none⟩), .int .i64 a1] w fun e w' => e = .returned (.bool r1) ∧ xE w0 w' g r2 r3 r4 r5 r6 r7 r8 r9 r10 r11 r12 ∧ Below w0.heap.size w0 w' ∧ xV w w' g none := by
 have HI0 := zQ.mk hI
 have HK := zQ.mk (xV.refl w g none)
 have HL := zQ.mk hB.size
 clear hI
 have HW0 := zQ.mk hB.size
 have HB := zQ.mk hB
 clear hB
 have H := h
 unfold vM.f at H
 clear h
 by_cases c3 : s0_1 ≤ a1
 ·rw [if_pos c3] at H
  have c3b0 : decide (s0_1 ≤ a1) = true := decide_eq_true c3
  clear c3
  simp only [Option.some.injEq, Prod.mk.injEq] at H
  obtain ⟨rfl, rfl, rfl, rfl, rfl, rfl, rfl, rfl, rfl, rfl, rfl, rfl⟩ := H
  obtain ⟨HGz4, hgz4⟩ := HI0.out
  have hcz4_0 := zXj HGz4
  have hcz4_1 := ky HGz4
  have hcz4_2 := zXz HGz4
  have hcz4_3 := zXq HGz4
  have hcz4_4 := zJv HGz4
  have hcz4_5 := zQk HGz4
  have hcz4_6 := zWn HGz4
  have hcz4_7 := uK HGz4
  have hcz4_8 := zQj HGz4
  have hcz4_9 := zJk HGz4
  have hcz4_10 := uz HGz4
  have hfz4_0 := qX HGz4 0
  have hfz4_1 := qX HGz4 1
  have hfz4_2 := qX HGz4 2
  have hfz4_3 := qX HGz4 3
  have hfz4_4 := qX HGz4 4
  have hfz4_5 := qX HGz4 5
  have hfz4_6 := qX HGz4 6
  have hfz4_7 := qX HGz4 7
  have hfz4_8 := qX HGz4 8
  have hfz4_9 := qX HGz4 9
  have hfz4_10 := qX HGz4 10
  clear HGz4 hgz4
  go_enter Tryz.func37, Tryz.ntmps37
  go_wp2
  go_ret
  exact ⟨by first | rfl | (simp [zq, zY] <;> rfl) | (simp [*, zq, zY] <;> rfl), by repeat (first | (with_reducible first | exact HI0.out | apply xE.alloc | apply xE.drewN | apply xE.drew | apply xE.set_0 | apply xE.set_1 | apply xE.set_2 | apply xE.set_3 | apply xE.set_4 | apply xE.set_5 | apply xE.set_6 | apply xE.set_7 | apply xE.set_8 | apply xE.set_9 | apply xE.set_10) | exact HI0.out), by repeat (first | (with_reducible first | exact HB.out | apply vV | apply qM | apply qD | refine jG ?_ (xE.ge HI0.out)) | exact HB.out), by repeat (first | (with_reducible first | exact HK.out | apply xV.set_ | apply zJh | apply keep_drew | apply keep_alloc) | exact HK.out)⟩
 ·rw [if_neg c3] at H
  have c3b0 : decide (s0_1 ≤ a1) = false := decide_eq_false c3
  clear c3
  simp only [Option.some.injEq, Prod.mk.injEq] at H
  obtain ⟨rfl, rfl, rfl, rfl, rfl, rfl, rfl, rfl, rfl, rfl, rfl, rfl⟩ := H
  obtain ⟨HGz5, hgz5⟩ := HI0.out
  have hcz5_0 := zXj HGz5
  have hcz5_1 := ky HGz5
  have hcz5_2 := zXz HGz5
  have hcz5_3 := zXq HGz5
  have hcz5_4 := zJv HGz5
  have hcz5_5 := zQk HGz5
  have hcz5_6 := zWn HGz5
  have hcz5_7 := uK HGz5
  have hcz5_8 := zQj HGz5
  have hcz5_9 := zJk HGz5
  have hcz5_10 := uz HGz5
  have hfz5_0 := qX HGz5 0
  have hfz5_1 := qX HGz5 1
  have hfz5_2 := qX HGz5 2
  have hfz5_3 := qX HGz5 3
  have hfz5_4 := qX HGz5 4
  have hfz5_5 := qX HGz5 5
  have hfz5_6 := qX HGz5 6
  have hfz5_7 := qX HGz5 7
  have hfz5_8 := qX HGz5 8
  have hfz5_9 := qX HGz5 9
  have hfz5_10 := qX HGz5 10
  clear HGz5 hgz5
  go_enter Tryz.func37, Tryz.ntmps37
  go_wp2
  go_ret
  exact ⟨by first | rfl | (simp [zq, zY] <;> rfl) | (simp [*, zq, zY] <;> rfl), by repeat (first | (with_reducible first | exact HI0.out | apply xE.alloc | apply xE.drewN | apply xE.drew | apply xE.set_0 | apply xE.set_1 | apply xE.set_2 | apply xE.set_3 | apply xE.set_4 | apply xE.set_5 | apply xE.set_6 | apply xE.set_7 | apply xE.set_8 | apply xE.set_9 | apply xE.set_10) | exact HI0.out), by repeat (first | (with_reducible first | exact HB.out | apply vV | apply qM | apply qD | refine jG ?_ (xE.ge HI0.out)) | exact HB.out), by repeat (first | (with_reducible first | exact HK.out | apply xV.set_ | apply zJh | apply keep_drew | apply keep_alloc) | exact HK.out)⟩
end Go.Proofs.YtaihfoihlbileaaGreatDoor.R7
