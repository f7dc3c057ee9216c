-- Made by a program of this session out of the translation (wip/pp.py): functions, contracts.
import Derived.Test.YtaihfoihlbileaaDoorR4x0
import Derived.Test.YtaihfoihlbileaaDoorR4x1
import Derived.Test.YtaihfoihlbileaaDoorR4x2
namespace Go.Proofs.YtaihfoihlbileaaDoor.R4
open Go.RowKit Go.Proofs.YtaihfoihlbileaaDoorW.PrintWords Go.Proofs.YtaihfoihlbileaaDoorW.PrintLast Go.Proofs.YtaihfoihlbileaaDoorW.PrintMore
attribute [local go_sem] max2_int min2_int max_two min_two max_three min_three max_four min_four   -- for this text's walks alone
set_option linter.unusedVariables false
set_option linter.unusedSimpArgs false

/-! ### whole_Int_By: function 50 -/
def whole_Int_By.l0 : Nat → List Int → List Int → Int → Bool → List Int → Bool → List Int → Option (Bool × List Int × Bool × List Int)
 | 0, _, _, _, _, _, _, _ => none
 | k + 1, x6, x7, x8, x173000, x173001, x174000, x174001 => if x8 ≥ 0 then ((whole_sum.f k x7 x7).bind fun t187 => (if 0 < (t187.length : Int) then (if 0 ≤ (wrap64 (Int.tdiv x8 32)) then (if (wrap64 (Int.tdiv x8 32)) < (x173001.length : Int) then (if 0 ≤ (Int.tmod x8 32) then ((whole_trimmed.f k (t187.set (0 : Int).toNat (Go.bits .or .u32 (rd t187 0) (Go.bits .and .u32 (shr .u32 (rd x173001 (wrap64 (Int.tdiv x8 32))) (Int.tmod x8 32)) 1)))).bind fun t193 => ((whole_compare.f k t193 x174001).bind fun t196 => (if t196 ≥ 0 then ((whole_less.f k t193 x174001).bind fun t197 => (if (wrap64 (Int.tdiv x8 32)) < (x6.length : Int) then (whole_Int_By.l0 k (x6.set ((wrap64 (Int.tdiv x8 32)) : Int).toNat (Go.bits .or .u32 (rd x6 (wrap64 (Int.tdiv x8 32))) (shl .u32 1 (Int.tmod x8 32)))) t197 (wrap64 (x8 - 1)) x173000 x173001 x174000 x174001) else (none))) else (whole_Int_By.l0 k x6 t193 (wrap64 (x8 - 1)) x173000 x173001 x174000 x174001)))) else (none)) else (none)) else (none)) else (none))) else ((whole_made.f k false x6).bind fun bt179 => ((whole_made.f k false x7).bind fun bt183 => (some (bt179.1, bt179.2, bt183.1, bt183.2))))
def whole_Int_By.f (k : Nat) (a0_0 : Bool) (l0_1 : List Int) (a1_0 : Bool) (l1_1 : List Int) : Option (Bool × List Int × Bool × List Int) := if 0 ≤ (l0_1.length : Int) then (if ((l0_1.length : Int) : Int).toNat ≤ 70368744177664 then (whole_Int_By.l0 k (List.replicate ((l0_1.length : Int) : Int).toNat 0) ([] : List Int) (wrap64 ((wrap64 ((l0_1.length : Int) * 32)) - 1)) a0_0 l0_1 a1_0 l1_1) else (none)) else (none)
theorem whole_Int_By.mono_l : ∀ k, (∀ y0 y1 y2 y3 y4 y5 y6, LeO (whole_Int_By.l0 k y0 y1 y2 y3 y4 y5 y6) (whole_Int_By.l0 (k + 1) y0 y1 y2 y3 y4 y5 y6))
 | 0 => fun _ _ _ _ _ _ _ r h => by simp [whole_Int_By.l0] at h
 | k + 1 => by
  have ih0 := whole_Int_By.mono_l k
  ·intro y0 y1 y2 y3 y4 y5 y6
   unfold whole_Int_By.l0
   repeat' first | with_reducible first | exact ih0 _ _ _ _ _ _ _ | exact whole_compare.mono _ _ _ | exact whole_less.mono _ _ _ | exact whole_made.mono _ _ _ | exact whole_sum.mono _ _ _ | exact whole_trimmed.mono _ _ | exact lr _ | exact ln _ | refine li ?_ ?_ | refine lb ?_ fun _ => ?_ | exact ih0 _ _ _ _ _ _ _ | exact whole_compare.mono _ _ _ | exact whole_less.mono _ _ _ | exact whole_made.mono _ _ _ | exact whole_sum.mono _ _ _ | exact whole_trimmed.mono _ _ | exact ln _ | refine li ?_ ?_ | refine lb ?_ fun _ => ?_
theorem whole_Int_By.mono : ∀ a0 a1 a2 a3 k, LeO (whole_Int_By.f k a0 a1 a2 a3) (whole_Int_By.f (k + 1) a0 a1 a2 a3) := by
 intro a0 a1 a2 a3 k
 have ih0 := whole_Int_By.mono_l k
 unfold whole_Int_By.f
 repeat' first | with_reducible first | exact ih0 _ _ _ _ _ _ _ | exact whole_compare.mono _ _ _ | exact whole_less.mono _ _ _ | exact whole_made.mono _ _ _ | exact whole_sum.mono _ _ _ | exact whole_trimmed.mono _ _ | exact lr _ | exact ln _ | refine li ?_ ?_ | refine lb ?_ fun _ => ?_ | exact ih0 _ _ _ _ _ _ _ | exact whole_compare.mono _ _ _ | exact whole_less.mono _ _ _ | exact whole_made.mono _ _ _ | exact whole_sum.mono _ _ _ | exact whole_trimmed.mono _ _ | exact ln _ | refine li ?_ ?_ | refine lb ?_ fun _ => ?_
def whole_Int_By.T7 : Bool × List (List Nat × List Nat) := (true, [([], []), ([0], [0]), ([1], [1]), ([], []), ([3], [3]), ([], []), ([5], [5]), ([4, 6], [4, 6]), ([7], [7]), ([], []), ([9], [9]), ([8, 10], [8, 10]), ([11], [11]), ([2, 12], [2, 12]), ([0, 0, 1, 2, 3, 4, 5, 6, 7, 8, 9, 10, 11, 12, 13], [0]), ([14, 13, 0, 1, 2, 3, 4, 5, 6, 7, 8, 9, 10, 11, 12, 13], [13, 14])])
def whole_Int_By.B7 : List Nat := [0, 1, 3, 0, 8, 0, 32, 120, 248, 0, 512, 2040, 4088, 8191, 16383, 32767]
theorem whole_Int_By.tab7 : rtab .any (opsOf Tryd.f50 7) = whole_Int_By.T7 := by kernel_rfl
theorem whole_Int_By.bits7 : waitsOk whole_Int_By.T7.2 whole_Int_By.B7 = true := by kernel_rfl
def whole_Int_By.T11 : Bool × List (List Nat × List Nat) := (true, [([], []), ([], []), ([1], [1]), ([0, 2], [0, 2]), ([3], [3]), ([], []), ([5], [5]), ([6], [6]), ([4, 7], [4, 7]), ([0, 2, 0, 1, 2, 3, 4, 5, 6, 7, 8], [0, 2]), ([9, 8, 0, 1, 2, 3, 4, 5, 6, 7, 8], [8, 9])])
def whole_Int_By.B11 : List Nat := [0, 0, 2, 7, 15, 0, 32, 96, 255, 511, 1023]
theorem whole_Int_By.tab11 : rtab .any (opsOf Tryd.f50 11) = whole_Int_By.T11 := by kernel_rfl
theorem whole_Int_By.bits11 : waitsOk whole_Int_By.T11.2 whole_Int_By.B11 = true := by kernel_rfl
set_option maxHeartbeats 8000000 in
set_option maxRecDepth 100000 in
theorem whole_Int_By.calls (k : Nat) (a0_0 : Bool) (A0_1 : Option Addr) (c0_1 : Nat) (l0_1 : List Int) (a1_0 : Bool) (A1_1 : Option Addr) (c1_1 : Nat) (l1_1 : List Int) (r1 : Bool) (r2 : List Int) (r3 : Bool) (r4 : List Int) (w : World) (hr0_1 : Kd.C (Kd.int .u32) w A0_1 l0_1.length l0_1) (hc0_1 : l0_1.length ≤ c0_1) (hr1_1 : Kd.C (Kd.int .u32) w A1_1 l1_1.length l1_1) (hc1_1 : l1_1.length ≤ c1_1) (h : whole_Int_By.f k a0_0 l0_1 a1_0 l1_1 = some (r1, r2, r3, r4)) :
  Calls Tryd.prog 50 #[.agg #[.bool a0_0, .slice A0_1 l0_1.length c0_1], .agg #[.bool a1_0, .slice A1_1 l1_1.length c1_1]] w fun e w' => ∃ v1_ v3_ : Value, e = .returned (.tuple #[.agg #[.bool r1, v1_], .agg #[.bool r3, v3_]]) ∧ Kd.V (Kd.int .u32) 99 w' w.heap.size (fun k_ => (w.heap.size ≤ k_)) v1_ r2 ∧ Kd.V (Kd.int .u32) 99 w' w.heap.size (fun k_ => (w.heap.size ≤ k_)) v3_ r4 ∧ Below w.heap.size w w' := by
 have hu85 := Tryd.underlying85
 have HR0_1 := Aside0.mk hr0_1
 have HC0_1 := Aside0.mk hc0_1
 clear hr0_1 hc0_1
 have HR1_1 := Aside0.mk hr1_1
 have HC1_1 := Aside0.mk hc1_1
 clear hr1_1 hc1_1
 have HB := Aside0.mk (Below.refl w.heap.size w)
 have H := h
 unfold whole_Int_By.f at H
 clear h
 by_cases c3 : 0 ≤ (l0_1.length : Int)
 ·rw [if_pos c3] at H
  have c3b0 := eq_true c3
  have c3b1 : decide (0 ≤ (l0_1.length : Int)) = true := decide_eq_true c3
  clear c3
  by_cases c4 : ((l0_1.length : Int) : Int).toNat ≤ 70368744177664
  ·rw [if_pos c4] at H
   have c4b0 := eq_true c4
   have c4b1 : decide (((l0_1.length : Int) : Int).toNat ≤ 70368744177664) = true := decide_eq_true c4
   clear c4
   obtain ⟨y176, hy176⟩ : ∃ y_ : List Int, y_ = (List.replicate ((l0_1.length : Int) : Int).toNat 0) := ⟨_, rfl⟩
   replace H : (whole_Int_By.l0 k y176 ([] : List Int) (wrap64 ((wrap64 ((l0_1.length : Int) * 32)) - 1)) a0_0 l0_1 a1_0 l1_1) = some (r1, r2, r3, r4) := by first | (rw [hy176]; with_reducible exact H) | (have H2_ := (Option.bind_some _ _).symm.trans H; rw [hy176]; with_reducible exact H2_) | (have H2_ := (Option.bind_some _ _).symm.trans H; with_reducible exact H2_) | with_reducible exact H | (rw [hy176]; exact H) | exact H
   have Ny176 := Aside0.mk hy176
   clear hy176
   have H' := Aside0.mk H
   clear H
   go_enter Tryd.func50, Tryd.ntmps50
   go_wp2_with (first | ((with_reducible refine gD 2 rfl ?_); refine bx w 2 #[.bool a0_0, .slice A0_1 l0_1.length c0_1] 85 ?_; intro gb172 hg w5 hb BK172 GW172 GE172; clear HB; intro HB; clear hb hg) | ((with_reducible refine gD 3 rfl ?_); refine bx w 3 #[.bool a1_0, .slice A1_1 l1_1.length c1_1] 85 ?_; intro gb173 hg w6 hb BK173 GW173 GE173; clear HB; intro HB; have NB172_173 := nbl BK172 hg; have NB173_172 := nbr BK172 hg; replace BK172 := bb BK172 hb; clear hb hg) | ((with_reducible refine gD 4 rfl ?_); refine bx w 4 #[.bool false, .slice none 0 0] 85 ?_; intro gb174 hg w7 hb BK174 GW174 GE174; clear HB; intro HB; have NB172_174 := nbl BK172 hg; have NB174_172 := nbr BK172 hg; replace BK172 := bb BK172 hb; have NB173_174 := nbl BK173 hg; have NB174_173 := nbr BK173 hg; replace BK173 := bb BK173 hb; clear hb hg) | ((with_reducible refine gD 5 rfl ?_); refine bx w 5 #[.bool false, .slice none 0 0] 85 ?_; intro gb175 hg w8 hb BK175 GW175 GE175; clear HB; intro HB; have NB172_175 := nbl BK172 hg; have NB175_172 := nbr BK172 hg; replace BK172 := bb BK172 hb; have NB173_175 := nbl BK173 hg; have NB175_173 := nbr BK173 hg; replace BK173 := bb BK173 hb; have NB174_175 := nbl BK174 hg; have NB175_174 := nbr BK174 hg; replace BK174 := bb BK174 hb; clear hb hg; have hnb9 := NB172_173.out; have hnc9 := NB173_172.out; have hnb10 := NB172_174.out; have hnc10 := NB174_172.out; have hnb11 := NB172_175.out; have hnc11 := NB175_172.out; obtain ⟨hcz12_0, hcz12_1, hfz12_0, hfz12_1⟩ := cz2 BK172) | ((with_reducible refine gD 12 rfl ?_); refine Kd.R_make (Kd.int .u32) _ 99 rfl (N := 12) rfl 83 _ _ rfl (l0_1.length : Int) rfl rfl Tryd.underlying83 (.int .u32 0) 4 info99 rfl (by decide) (by omega) 0 (ok := fun _ => True) (okp := fun _ => True) rfl (fun _ hk => hk) trivial (of_decide_eq_true (by assumption)) (Nat.le_trans (Nat.mul_le_mul_right _ (of_decide_eq_true (by assumption) : (l0_1.length : Int).toNat ≤ 70368744177664)) (by omega)) (Below.refl _ _) (Nat.le_refl _) ?_; intro v177 w13 ho14 hb hg_ hnew_; clear hg_ hnew_; (first | rw [← Ny176.out] at ho14 | (simp only [Int.reduceToNat] at ho14; rw [← Ny176.out] at ho14)); have HO178 := Aside0.mk (Kd.R_lower (Kd.R_newM (M := fun k_ => (w.heap.size ≤ k_)) ho14 (below_size (zb w)) (fun k_ h_ => h_)) (below_size (zb w))); replace BK172 := bb BK172 hb; replace BK173 := bb BK173 hb; replace BK174 := bb BK174 hb; replace BK175 := bb BK175 hb; replace HB := hs w hb; clear hb ho14; obtain ⟨hcz15_0, hcz15_1, hfz15_0, hfz15_1⟩ := cz2 BK172))
   try simp only [sq]
   go_loopg [7, 8] k (fun kq v7 v8 w' => ∃ (x6_1 : List Int) (x7_1 : List Int) (x8_1 : Int), v8 = .int .i64 x8_1 ∧ Aside0 (whole_Int_By.l0 kq x6_1 x7_1 x8_1 a0_0 l0_1 a1_0 l1_1 = some (r1, r2, r3, r4)) ∧ Aside0 (kq ≤ k) ∧ Aside0 (Kd.R (Kd.int .u32) 99 w' w.heap.size (fun k_ => (w.heap.size ≤ k_)) v177 x6_1) ∧ Aside0 (Kd.V (Kd.int .u32) 99 w' w.heap.size (fun k_ => (w.heap.size ≤ k_) ∧ some k_ ≠ (v177 : Value).ownBlock ∧ k_ ≠ gb172 ∧ k_ ≠ gb173 ∧ k_ ≠ gb174 ∧ k_ ≠ gb175) v7 x7_1) ∧ Aside0 (w'.heap[gb172]? = some (.cells #[.bool a0_0, (.slice A0_1 l0_1.length c0_1)] 85 (0, 0))) ∧ Aside0 (w'.heap[gb173]? = some (.cells #[.bool a1_0, (.slice A1_1 l1_1.length c1_1)] 85 (0, 0))) ∧ Aside0 (w'.heap[gb174]? = some (.cells #[.bool false, (.slice none 0 0)] 85 (0, 0))) ∧ Aside0 (w'.heap[gb175]? = some (.cells #[.bool false, (.slice none 0 0)] 85 (0, 0))) ∧ Aside0 (Below w.heap.size w w'))
   case atStart => exact ⟨(y176), (([] : List Int)), (wrap64 ((wrap64 ((l0_1.length : Int) * 32)) - 1)), ar, H', ⟨Nat.le_refl _⟩, ⟨by (with_reducible repeat (first | apply Kd.R_alloc | apply Kd.R_drewN | apply Kd.R_drew)); exact Kd.R_mono HO178.out (fun _ hk => hk.1)⟩, ⟨Kd.V_nil _ _ _ _ _⟩, ⟨(zk BK172)⟩, ⟨(zk BK173)⟩, ⟨(zk BK174)⟩, ⟨(zk BK175)⟩, ⟨(zb w)⟩⟩
   case round =>
    clear H'
    try clear c1
    try clear p2
    try clear c3
    try clear c3b0
    try clear c3b1
    try clear c4
    try clear c4b0
    try clear c4b1
    try clear c5
    try clear p6
    try clear c9
    try clear c10
    try clear c11
    try clear hcz12_0 hcz12_1
    try clear hcz15_0 hcz15_1
    try clear hfz12_0 hfz12_1
    try clear hfz15_0 hfz15_1
    obtain ⟨x6_1, x7_1, x8_1, rfl, HA, HK1, HO_6, HO_7, BK172, BK173, BK174, BK175, HB⟩ := hrel
    cases gk with
    | zero => exact absurd HA.out (by simp [whole_Int_By.l0])
    | succ k1 =>
     have H := HA.out
     clear HA
     simp only [whole_Int_By.l0] at H
     by_cases c16 : x8_1 ≥ 0
     ·rw [if_pos c16] at H
      have c16b0 : decide (0 ≤ x8_1) = true := decide_eq_true c16
      clear c16
      replace H := Option.bind_eq_some_iff.mp H
      obtain ⟨t187, A170, H⟩ := H
      try dsimp only at H
      have A17 := Aside0.mk A170
      clear A170
      by_cases c18 : 0 < (t187.length : Int)
      ·rw [if_pos c18] at H
       have c18b0 : decide (0 < (t187.length : Int)) = true := decide_eq_true c18
       have c18b1 : decide (0 < t187.length) = true := decide_eq_true (by omega)
       clear c18
       obtain ⟨ji19, hji19⟩ : ∃ j_ : Int, (wrap64 (Int.tdiv x8_1 32)) = j_ := ⟨_, rfl⟩
       replace H : (if 0 ≤ (ji19) then (if (ji19) < (l0_1.length : Int) then (if 0 ≤ (Int.tmod x8_1 32) then ((whole_trimmed.f k1 (t187.set (0 : Int).toNat (Go.bits .or .u32 (rd t187 0) (Go.bits .and .u32 (shr .u32 (rd l0_1 (ji19)) (Int.tmod x8_1 32)) 1)))).bind fun t193 => ((whole_compare.f k1 t193 l1_1).bind fun t196 => (if t196 ≥ 0 then ((whole_less.f k1 t193 l1_1).bind fun t197 => (if (ji19) < (x6_1.length : Int) then (whole_Int_By.l0 k1 (x6_1.set ((ji19) : Int).toNat (Go.bits .or .u32 (rd x6_1 (ji19)) (shl .u32 1 (Int.tmod x8_1 32)))) t197 (wrap64 (x8_1 - 1)) a0_0 l0_1 a1_0 l1_1) else (none))) else (whole_Int_By.l0 k1 x6_1 t193 (wrap64 (x8_1 - 1)) a0_0 l0_1 a1_0 l1_1)))) else (none)) else (none)) else (none)) = some (r1, r2, r3, r4) := by first | (rw [hji19] at H; exact H) | (simp only [hji19] at H ⊢; exact H)
       (try rw [hji19] at A17)
       have hji19w : (IntKind.i64.wrap (Int.tdiv x8_1 32)) = ji19 := (i64_w _).trans hji19
       by_cases c20 : 0 ≤ (ji19)
       ·rw [if_pos c20] at H
        have c20b0 : decide (0 ≤ (ji19)) = true := decide_eq_true c20
        clear c20
        by_cases c21 : (ji19) < (l0_1.length : Int)
        ·rw [if_pos c21] at H
         have c21b0 : decide ((ji19) < (l0_1.length : Int)) = true := decide_eq_true c21
         clear c21
         obtain ⟨ji22, hji22⟩ : ∃ j_ : Int, (Int.tmod x8_1 32) = j_ := ⟨_, rfl⟩
         replace H : (if 0 ≤ (ji22) then ((whole_trimmed.f k1 (t187.set (0 : Int).toNat (Go.bits .or .u32 (rd t187 0) (Go.bits .and .u32 (shr .u32 (rd l0_1 (ji19)) (ji22)) 1)))).bind fun t193 => ((whole_compare.f k1 t193 l1_1).bind fun t196 => (if t196 ≥ 0 then ((whole_less.f k1 t193 l1_1).bind fun t197 => (if (ji19) < (x6_1.length : Int) then (whole_Int_By.l0 k1 (x6_1.set ((ji19) : Int).toNat (Go.bits .or .u32 (rd x6_1 (ji19)) (shl .u32 1 (ji22)))) t197 (wrap64 (x8_1 - 1)) a0_0 l0_1 a1_0 l1_1) else (none))) else (whole_Int_By.l0 k1 x6_1 t193 (wrap64 (x8_1 - 1)) a0_0 l0_1 a1_0 l1_1)))) else (none)) = some (r1, r2, r3, r4) := by first | (rw [hji22] at H; exact H) | (simp only [hji22] at H ⊢; exact H)
         (try rw [hji22] at A17)
         by_cases c23 : 0 ≤ (ji22)
         ·rw [if_pos c23] at H
          have c23b0 := eq_true c23
          have c23b1 : decide (0 ≤ (ji22)) = true := decide_eq_true c23
          clear c23
          obtain ⟨ji24, hji24⟩ : ∃ j_ : Int, (shr .u32 (rd l0_1 (ji19)) (ji22)) = j_ := ⟨_, rfl⟩
          replace H : ((whole_trimmed.f k1 (t187.set (0 : Int).toNat (Go.bits .or .u32 (rd t187 0) (Go.bits .and .u32 (ji24) 1)))).bind fun t193 => ((whole_compare.f k1 t193 l1_1).bind fun t196 => (if t196 ≥ 0 then ((whole_less.f k1 t193 l1_1).bind fun t197 => (if (ji19) < (x6_1.length : Int) then (whole_Int_By.l0 k1 (x6_1.set ((ji19) : Int).toNat (Go.bits .or .u32 (rd x6_1 (ji19)) (shl .u32 1 (ji22)))) t197 (wrap64 (x8_1 - 1)) a0_0 l0_1 a1_0 l1_1) else (none))) else (whole_Int_By.l0 k1 x6_1 t193 (wrap64 (x8_1 - 1)) a0_0 l0_1 a1_0 l1_1)))) = some (r1, r2, r3, r4) := by first | (rw [hji24] at H; exact H) | (simp only [hji24] at H ⊢; exact H)
          (try rw [hji24] at A17)
          have hji24_ : ((rd l0_1 (ji19)) / 2 ^ min (ji22).toNat 32) = ji24 := hji24
          have hji24z : (ji22) ≤ 32 → ((rd l0_1 (ji19)) / 2 ^ (ji22).toNat) = ji24 := shr_small hji24
          obtain ⟨y192, hy192⟩ : ∃ y_ : List Int, y_ = (t187.set (0 : Int).toNat (Go.bits .or .u32 (rd t187 0) (Go.bits .and .u32 (ji24) 1))) := ⟨_, rfl⟩
          replace H : ((whole_trimmed.f k1 y192).bind fun t193 => ((whole_compare.f k1 t193 l1_1).bind fun t196 => (if t196 ≥ 0 then ((whole_less.f k1 t193 l1_1).bind fun t197 => (if (ji19) < (x6_1.length : Int) then (whole_Int_By.l0 k1 (x6_1.set ((ji19) : Int).toNat (Go.bits .or .u32 (rd x6_1 (ji19)) (shl .u32 1 (ji22)))) t197 (wrap64 (x8_1 - 1)) a0_0 l0_1 a1_0 l1_1) else (none))) else (whole_Int_By.l0 k1 x6_1 t193 (wrap64 (x8_1 - 1)) a0_0 l0_1 a1_0 l1_1)))) = some (r1, r2, r3, r4) := by first | (rw [hy192]; with_reducible exact H) | (have H2_ := (Option.bind_some _ _).symm.trans H; rw [hy192]; with_reducible exact H2_) | (have H2_ := (Option.bind_some _ _).symm.trans H; with_reducible exact H2_) | with_reducible exact H | (rw [hy192]; exact H) | exact H
          have Ny192 := Aside0.mk hy192
          clear hy192
          replace H := Option.bind_eq_some_iff.mp H
          obtain ⟨t193, A260, H⟩ := H
          try dsimp only at H
          have A26 := Aside0.mk A260
          clear A260
          replace H := Option.bind_eq_some_iff.mp H
          obtain ⟨t196, A270, H⟩ := H
          try dsimp only at H
          have A27 := Aside0.mk A270
          clear A270
          by_cases c28 : t196 ≥ 0
          ·rw [if_pos c28] at H
           have c28b0 : decide (0 ≤ t196) = true := decide_eq_true c28
           clear c28
           replace H := Option.bind_eq_some_iff.mp H
           obtain ⟨t197, A290, H⟩ := H
           try dsimp only at H
           have A29 := Aside0.mk A290
           clear A290
           by_cases c30 : (ji19) < (x6_1.length : Int)
           ·rw [if_pos c30] at H
            have c30b0 : decide ((ji19) < (x6_1.length : Int)) = true := decide_eq_true c30
            clear c30
            have c31b0 := eq_true (of_decide_eq_true (by assumption) : 0 ≤ (ji22))
            obtain ⟨ji32, hji32⟩ : ∃ j_ : Int, (shl .u32 1 (ji22)) = j_ := ⟨_, rfl⟩
            replace H : (whole_Int_By.l0 k1 (x6_1.set ((ji19) : Int).toNat (Go.bits .or .u32 (rd x6_1 (ji19)) (ji32))) t197 (wrap64 (x8_1 - 1)) a0_0 l0_1 a1_0 l1_1) = some (r1, r2, r3, r4) := by first | (rw [hji32] at H; exact H) | (simp only [hji32] at H ⊢; exact H)
            (try rw [hji32] at A17)
            (try rw [hji32] at A26)
            (try rw [hji32] at A27)
            (try rw [hji32] at A29)
            have hji32_ : (IntKind.u32.wrap (1 * 2 ^ min (ji22).toNat 32)) = ji32 := hji32
            have hji32z : (ji22) ≤ 32 → (IntKind.u32.wrap (1 * 2 ^ (ji22).toNat)) = ji32 := shl_small hji32
            have hji32u : (IntKind.u32.wrap (2 ^ min (ji22).toNat 32)) = ji32 := by have h_ := hji32_; rw [Int.one_mul] at h_; exact h_
            have hji32v : (ji22) ≤ 32 → (IntKind.u32.wrap (2 ^ (ji22).toNat)) = ji32 := fun hle_ => by have h_ := hji32z hle_; rw [Int.one_mul] at h_; exact h_
            obtain ⟨y201, hy201⟩ : ∃ y_ : List Int, y_ = (x6_1.set ((ji19) : Int).toNat (Go.bits .or .u32 (rd x6_1 (ji19)) (ji32))) := ⟨_, rfl⟩
            replace H : (whole_Int_By.l0 k1 y201 t197 (wrap64 (x8_1 - 1)) a0_0 l0_1 a1_0 l1_1) = some (r1, r2, r3, r4) := by first | (rw [hy201]; with_reducible exact H) | (have H2_ := (Option.bind_some _ _).symm.trans H; rw [hy201]; with_reducible exact H2_) | (have H2_ := (Option.bind_some _ _).symm.trans H; with_reducible exact H2_) | with_reducible exact H | (rw [hy201]; exact H) | exact H
            have Ny201 := Aside0.mk hy201
            clear hy201
            have H' := Aside0.mk H
            clear H
            obtain ⟨Ao34, co34, eo34⟩ := Kd.V_slice HO_7.out
            subst eo34
            try go_wp2_with (first | ((with_reducible refine gC 62 rfl ?_); refine gl_ 24 Tryd.func62 #[.slice Ao34 x7_1.length co34, .slice Ao34 x7_1.length co34] ?_; (with_reducible refine (whole_sum.calls k1 _ _ x7_1 _ _ x7_1 t187 _ ?side1 ?side2 ?side3 ?side4 A17.out).mono ?_); (case side1 => repeat (first | exact (Kd.V_reads' HO_7.out).2.2 | (with_reducible refine Kd.C_alloc ?_ _) | (with_reducible refine Kd.C_drewN ?_ _) | (with_reducible refine Kd.C_drew ?_))); (case side2 => exact (Kd.V_reads' HO_7.out).2.1); (case side3 => repeat (first | exact (Kd.V_reads' HO_7.out).2.2 | (with_reducible refine Kd.C_alloc ?_ _) | (with_reducible refine Kd.C_drewN ?_ _) | (with_reducible refine Kd.C_drew ?_))); (case side4 => exact (Kd.V_reads' HO_7.out).2.1); rintro e w35 ⟨v188, rfl, ho0, hb⟩; refine ⟨_, rfl, ?_⟩; replace HO_7 := Aside0.mk (Kd.V_elder' (by (with_reducible repeat (first | apply Kd.V_alloc | apply Kd.V_drewN | apply Kd.V_drew)); exact HO_7.out) (Kd.R_base ho0) hb); have HO189 := Aside0.mk (Kd.R_lower (Kd.R_new' (Kd.R_newM (M := fun k_ => (w.heap.size ≤ k_)) ho0 (below_size (zb w)) (fun k_ h_ => h_)) (Kd.R_lt (zo HO_6))) (below_size (zb w))); replace HO_6 := Aside0.mk (Kd.R_elder' (zo HO_6) (Kd.R_base ho0) hb); replace BK172 := bb BK172 hb; replace BK173 := bb BK173 hb; replace BK174 := bb BK174 hb; replace BK175 := bb BK175 hb; replace HB := hs w hb; (try clear hb); (try clear ho0)))
            have n0_ := Aside0.mk (Kd.R_drew HO_6.out)
            have n1_ := Aside0.mk (Kd.V_drew HO_7.out)
            have n2_ := Aside0.mk (Kd.R_drew HO189.out)
            have n3_ := Aside0.mk (blk_drew BK172.out)
            have n4_ := Aside0.mk (blk_drew BK173.out)
            have n5_ := Aside0.mk (blk_drew BK174.out)
            have n6_ := Aside0.mk (blk_drew BK175.out)
            have n7_ := Aside0.mk (below_drew1 HB.out)
            clear HO_6
            clear HO_7
            clear HO189
            clear BK172
            clear BK173
            clear BK174
            clear BK175
            clear HB
            have HO_6 := n0_
            have HO_7 := n1_
            have HO189 := n2_
            have BK172 := n3_
            have BK173 := n4_
            have BK174 := n5_
            have BK175 := n6_
            have HB := n7_
            clear n0_ n1_ n2_ n3_ n4_ n5_ n6_ n7_
            obtain ⟨Ao37, co37, eo37⟩ := Kd.R_slice HO189.out
            (first | subst eo37 | (injection eo37 with f1_ f2_ f3_; have f4_ := f1_.symm; have f5_ := f3_.symm; clear f1_ f2_ f3_; subst f4_; subst f5_))
            have p190 : 0 ≤ (0 : Int) := (by omega)
            have q190 : 0 < (t187.length : Int) := of_decide_eq_true (by assumption)
            obtain ⟨ad190, e190, hx190_0⟩ := Kd.at_int (Kd.R_reads' HO189.out).2.2 0 p190 q190
            cases e190
            have qi190 : (0 < t187.length) = True := eq_true (by omega)
            (try rw [show ((0 : Int)).toNat = 0 from rfl] at hx190_0)
            (try rw [Addr.add_zero'] at hx190_0)
            replace p190 := eq_true p190
            replace q190 := eq_true q190
            have p191 : 0 ≤ ((ji19) : Int) := of_decide_eq_true (by assumption)
            have q191 : (ji19) < (l0_1.length : Int) := of_decide_eq_true (by assumption)
            obtain ⟨ad191, e191, hx191_0⟩ := Kd.at_int HR0_1.out (ji19) p191 q191
            have hw191_0 := hx191_0
            cases e191
            replace hx191_0 := hz HB hx191_0
            replace p191 := eq_true p191
            replace q191 := eq_true q191
            have p25 : 0 ≤ (0 : Int) := (by omega)
            have q25 : (0 : Int) < ((t187.length : Int) : Int) := of_decide_eq_true (by assumption)
            have qi25 : (0 < t187.length) = True := eq_true (by omega)
            obtain ⟨go25, co25, eo25, gb25, gl25, cl25, HG25⟩ := Kd.R_form HO189.out (by omega)
            (first | cases eo25 | (injection eo25 with ea_ en_ ec_; (first | subst ea_ | (injection ea_ with ea_; subst ea_)); subst ec_; clear en_))
            have GB25 := Aside0.mk gb25
            have GG25 := Aside0.mk HG25
            clear gb25 gl25 HG25
            (first | simp only [add_plain] at hx190_0 | skip)
            obtain ⟨hx25_0, hf25_0⟩ := Kd.R_celln 0 HO189.out (0 : Int) p25 q25
            (try rw [show ((0 : Int)).toNat = 0 from rfl] at hx25_0)
            (try simp only [Nat.reduceMul, Nat.zero_mul, Nat.zero_add, Nat.reduceAdd] at hx25_0)
            (try rw [show ((0 : Int)).toNat = 0 from rfl] at hf25_0)
            (try simp only [Nat.reduceMul, Nat.zero_mul, Nat.zero_add, Nat.reduceAdd] at hf25_0)
            replace p25 := eq_true p25
            replace q25 := eq_true q25
            have HP38 := Kd.R_putn HO189.out (0 : Int) (Go.bits .or .u32 (rd t187 0) (Go.bits .and .u32 (ji24) 1))
            rw [← Ny192.out] at HP38
            have HQ38 := Aside0.mk HP38
            clear HP38
            refine start_ (n := 16) (S := fun w' => w'.cell? ⟨gb172, 0, none⟩ = some (.bool a0_0) ∧ w'.cell? ⟨gb172, 1, none⟩ = some (.slice (some ad191) l0_1.length c0_1) ∧ w'.cell? ⟨go25, 0, none⟩ = some (.int .u32 (rd t187 0)) ∧ w'.cell? (ad191.add ((ji19)).toNat) = some (.int .u32 (rd l0_1 (ji19)))) (ds := [15]) (bm 16 0) (by kernel_rfl) rfl rfl ⟨(blk_cell BK172.out 0).trans rfl, (blk_cell BK172.out 1).trans rfl, hx190_0, ((HB.out.cell (World.block_lt_of_cell? w _ hw191_0)).trans hw191_0)⟩ (fun hHeld => ?_); refine with_tabW whole_Int_By.tab7 whole_Int_By.bits7 (fun HT_ HW_ => ?_)
            generalize w35.drew = w36 at HO_6 HO_7 HO189 BK172 BK173 BK174 BK175 HB GG25 HQ38 hf25_0 hx190_0 hx191_0 hx25_0 hHeld ⊢
            refine pu 0 25 (bm 16 1) HT_ ?_
            refine pu 1 26 (bm 16 3) HT_ ?_
            refine pu 3 28 (bm 16 11) HT_ ?_
            refine pu 5 30 (bm 16 43) HT_ ?_
            refine pu 6 31 (bm 16 107) HT_ ?_
            refine pu 9 34 (bm 16 619) HT_ ?_
            refine pu 10 35 (bm 16 1643) HT_ ?_
            refine ta4 2 27 (bm 16 1647) HT_ HW_ hHeld ?_
            refine ta4 4 29 (bm 16 1663) HT_ HW_ hHeld ?_
            refine pu 7 32 (bm 16 1791) HT_ ?_
            refine ta4 8 33 (bm 16 2047) HT_ HW_ hHeld ?_
            refine pu 11 36 (bm 16 4095) HT_ ?_
            refine pu 12 37 (bm 16 8191) HT_ ?_
            refine pu 13 38 (bm 16 16383) HT_ ?_
            refine pu 14 39 (bm 16 32767) HT_ ?_
            refine last_ (i := 15) (N := none) (bm 16 65535) rfl rfl (one_of HT_.out (by kernel_rfl)) (by decide) (fun K hK => ?_)
            refine skip_ (w1 := ?_) (by rfl) rfl ?_ ?_
            rotate_left
            ·go_simp
             rfl
            refine hK.out _ _ ?_
            clear hK K
            refine done_ (done_of HT_.out (by kernel_rfl)) ?_
            have n0_ : Aside0 (Kd.R (Kd.int .u32) 99 (w36.setCell ⟨go25, 0, none⟩ (.int .u32 (Go.bits .or .u32 (rd t187 0) (Go.bits .and .u32 (ji24) 1)))) w.heap.size (fun k_ => (w.heap.size ≤ k_) ∧ some k_ ≠ (.slice (some ⟨go25, 0, none⟩) t187.length co37 : Value).ownBlock) v177 x6_1) := ⟨by (with_reducible repeat (first | apply Kd.R_alloc | apply Kd.R_drewN | apply Kd.R_drew)); exact Kd.R_mono (Kd.R_far (p := ⟨go25, 0, none⟩) (Kd.R_mono HO_6.out (fun k_ hk => (⟨hk, fun e_ => hk.2 (by rw [e_]; rfl)⟩ : _ ∧ k_ ≠ go25))) (fun _ hk => hk.2) (.int .u32 (Go.bits .or .u32 (rd t187 0) (Go.bits .and .u32 (ji24) 1)))) (fun _ hk => ⟨hk.1.1, hk.1.2⟩)⟩
            have n1_ : Aside0 (Kd.V (Kd.int .u32) 99 (w36.setCell ⟨go25, 0, none⟩ (.int .u32 (Go.bits .or .u32 (rd t187 0) (Go.bits .and .u32 (ji24) 1)))) w.heap.size (fun k_ => (w.heap.size ≤ k_) ∧ some k_ ≠ (v177 : Value).ownBlock ∧ some k_ ≠ (.slice (some ⟨go25, 0, none⟩) t187.length co37 : Value).ownBlock ∧ k_ ≠ gb172 ∧ k_ ≠ gb173 ∧ k_ ≠ gb174 ∧ k_ ≠ gb175) (.slice Ao34 x7_1.length co34) x7_1) := ⟨by (with_reducible repeat (first | apply Kd.V_alloc | apply Kd.V_drewN | apply Kd.V_drew)); exact Kd.V_mono (Kd.V_far (p := ⟨go25, 0, none⟩) (Kd.V_mono HO_7.out (fun k_ hk => (⟨hk, fun e_ => hk.2 (by rw [e_]; rfl)⟩ : _ ∧ k_ ≠ go25))) (fun _ hk => hk.2) (.int .u32 (Go.bits .or .u32 (rd t187 0) (Go.bits .and .u32 (ji24) 1)))) (fun _ hk => ⟨hk.1.1.1, ⟨hk.1.1.2.1, ⟨hk.1.2, ⟨hk.1.1.2.2.1, ⟨hk.1.1.2.2.2.1, ⟨hk.1.1.2.2.2.2.1, hk.1.1.2.2.2.2.2⟩⟩⟩⟩⟩⟩)⟩
            have n2_ : Aside0 (Kd.R (Kd.int .u32) 99 (w36.setCell ⟨go25, 0, none⟩ (.int .u32 (Go.bits .or .u32 (rd t187 0) (Go.bits .and .u32 (ji24) 1)))) w.heap.size (fun k_ => (w.heap.size ≤ k_) ∧ some k_ ≠ (v177 : Value).ownBlock) (.slice (some ⟨go25, 0, none⟩) t187.length co37) y192) := ⟨by (with_reducible repeat (first | apply Kd.R_alloc | apply Kd.R_drewN | apply Kd.R_drew)); exact Kd.R_mono HQ38.out (fun _ hk => ⟨hk.1.1, hk.2⟩)⟩
            have n3_ : Aside0 ((w36.setCell ⟨go25, 0, none⟩ (.int .u32 (Go.bits .or .u32 (rd t187 0) (Go.bits .and .u32 (ji24) 1)))).heap[gb172]? = some (.cells #[.bool a0_0, .slice (some ad191) l0_1.length c0_1] 85 (0, 0))) := ⟨by (with_reducible repeat (first | refine blk_drewN ?_ _ | refine blk_drew ?_ | refine blk_alloc ?_ _)); refine blk_far ?_ (by have h_ := Kd.R_ne HO189.out BK172.out (by decide); intro e_; exact h_ (by rw [e_]; rfl)) _; exact zk BK172⟩
            have n4_ : Aside0 ((w36.setCell ⟨go25, 0, none⟩ (.int .u32 (Go.bits .or .u32 (rd t187 0) (Go.bits .and .u32 (ji24) 1)))).heap[gb173]? = some (.cells #[.bool a1_0, .slice A1_1 l1_1.length c1_1] 85 (0, 0))) := ⟨by (with_reducible repeat (first | refine blk_drewN ?_ _ | refine blk_drew ?_ | refine blk_alloc ?_ _)); refine blk_far ?_ (by have h_ := Kd.R_ne HO189.out BK173.out (by decide); intro e_; exact h_ (by rw [e_]; rfl)) _; exact zk BK173⟩
            have n5_ : Aside0 ((w36.setCell ⟨go25, 0, none⟩ (.int .u32 (Go.bits .or .u32 (rd t187 0) (Go.bits .and .u32 (ji24) 1)))).heap[gb174]? = some (.cells #[.bool false, .slice none 0 0] 85 (0, 0))) := ⟨by (with_reducible repeat (first | refine blk_drewN ?_ _ | refine blk_drew ?_ | refine blk_alloc ?_ _)); refine blk_far ?_ (by have h_ := Kd.R_ne HO189.out BK174.out (by decide); intro e_; exact h_ (by rw [e_]; rfl)) _; exact zk BK174⟩
            have n6_ : Aside0 ((w36.setCell ⟨go25, 0, none⟩ (.int .u32 (Go.bits .or .u32 (rd t187 0) (Go.bits .and .u32 (ji24) 1)))).heap[gb175]? = some (.cells #[.bool false, .slice none 0 0] 85 (0, 0))) := ⟨by (with_reducible repeat (first | refine blk_drewN ?_ _ | refine blk_drew ?_ | refine blk_alloc ?_ _)); refine blk_far ?_ (by have h_ := Kd.R_ne HO189.out BK175.out (by decide); intro e_; exact h_ (by rw [e_]; rfl)) _; exact zk BK175⟩
            have n7_ : Aside0 (Below w.heap.size w (w36.setCell ⟨go25, 0, none⟩ (.int .u32 (Go.bits .or .u32 (rd t187 0) (Go.bits .and .u32 (ji24) 1))))) := ⟨(zb w)⟩
            (try clear HO_6)
            (try clear HO_7)
            (try clear HO189)
            (try clear BK172)
            (try clear BK173)
            (try clear BK174)
            (try clear BK175)
            (try clear HB)
            generalize (w36.setCell ⟨go25, 0, none⟩ (.int .u32 (Go.bits .or .u32 (rd t187 0) (Go.bits .and .u32 (ji24) 1)))) = w39 at n0_ n1_ n2_ n3_ n4_ n5_ n6_ n7_ ⊢
            have HO_6 := n0_
            have HO_7 := n1_
            have HO189 := n2_
            have BK172 := n3_
            have BK173 := n4_
            have BK174 := n5_
            have BK175 := n6_
            have HB := n7_
            clear n0_ n1_ n2_ n3_ n4_ n5_ n6_ n7_
            try go_wp2_with (first | ((with_reducible refine gC 63 rfl ?_); refine gl_ 41 Tryd.func63 #[.slice (some ⟨go25, 0, none⟩) y192.length co37] ?_ (hargs := by (try simp only [List.map_toArray, List.map_cons, List.map_nil]); first | done | (rw [show y192.length = t187.length from (Kd.R_reads' HO189.out).1.symm] <;> rfl) | rfl | (simp only [List.length_drop, List.length_take]; rfl) | (simp only [R_ww1, R_ww2]; rfl)); (with_reducible refine (whole_trimmed.calls k1 (fun k_ => some k_ = (.slice (some ⟨go25, 0, none⟩) t187.length co37 : Value).ownBlock) _ _ y192 t193 _ ?side1 A26.out).mono ?_); (case side1 => rw [show y192.length = t187.length from (Kd.R_reads' HO189.out).1.symm]; exact Kd.R_V (Kd.R_tight rfl (Kd.R_types (Kd.R_types (Kd.R_types (Kd.R_types (HO189.out) BK172.out (by decide)) BK173.out (by decide)) BK174.out (by decide)) BK175.out (by decide)))); rintro e w40 ⟨v194, rfl, ho0, hb⟩; refine ⟨_, rfl, ?_⟩; replace HO_7 := Aside0.mk (Kd.V_below (by (with_reducible repeat (first | apply Kd.V_alloc | apply Kd.V_drewN | apply Kd.V_drew)); exact HO_7.out) hb); have HO195 := Aside0.mk (Kd.V_lower (Kd.V_mono (ok' := fun k_ => (w.heap.size ≤ k_) ∧ some k_ ≠ (v177 : Value).ownBlock ∧ k_ ≠ gb172 ∧ k_ ≠ gb173 ∧ k_ ≠ gb174 ∧ k_ ≠ gb175) ho0 (fun k_ hk_ => ⟨Or.elim hk_ (fun hs_ => ((Kd.R_types (Kd.R_types (Kd.R_types (Kd.R_types (HO189.out) BK172.out (by decide)) BK173.out (by decide)) BK174.out (by decide)) BK175.out (by decide)).1 k_ hs_.symm).1.1.1.1.1) (fun hn_ => (Nat.le_trans (below_size (zb w)) hn_)), Or.elim hk_ (fun hs_ => ((Kd.R_types (Kd.R_types (Kd.R_types (Kd.R_types (HO189.out) BK172.out (by decide)) BK173.out (by decide)) BK174.out (by decide)) BK175.out (by decide)).1 k_ hs_.symm).1.1.1.1.2) (fun hn_ => (Kd.fresh' (Kd.R_lt (zo HO_6)) k_ hn_)), Or.elim hk_ (fun hs_ => ((Kd.R_types (Kd.R_types (Kd.R_types (Kd.R_types (HO189.out) BK172.out (by decide)) BK173.out (by decide)) BK174.out (by decide)) BK175.out (by decide)).1 k_ hs_.symm).1.1.1.2) (fun hn_ => (Kd.freshB (g := gb172) (o := .cells #[.bool a0_0, .slice (some ad191) l0_1.length c0_1] 85 (0, 0)) (zk BK172) k_ hn_)), Or.elim hk_ (fun hs_ => ((Kd.R_types (Kd.R_types (Kd.R_types (Kd.R_types (HO189.out) BK172.out (by decide)) BK173.out (by decide)) BK174.out (by decide)) BK175.out (by decide)).1 k_ hs_.symm).1.1.2) (fun hn_ => (Kd.freshB (g := gb173) (o := .cells #[.bool a1_0, .slice A1_1 l1_1.length c1_1] 85 (0, 0)) (zk BK173) k_ hn_)), Or.elim hk_ (fun hs_ => ((Kd.R_types (Kd.R_types (Kd.R_types (Kd.R_types (HO189.out) BK172.out (by decide)) BK173.out (by decide)) BK174.out (by decide)) BK175.out (by decide)).1 k_ hs_.symm).1.2) (fun hn_ => (Kd.freshB (g := gb174) (o := .cells #[.bool false, .slice none 0 0] 85 (0, 0)) (zk BK174) k_ hn_)), Or.elim hk_ (fun hs_ => ((Kd.R_types (Kd.R_types (Kd.R_types (Kd.R_types (HO189.out) BK172.out (by decide)) BK173.out (by decide)) BK174.out (by decide)) BK175.out (by decide)).1 k_ hs_.symm).2) (fun hn_ => (Kd.freshB (g := gb175) (o := .cells #[.bool false, .slice none 0 0] 85 (0, 0)) (zk BK175) k_ hn_))⟩)) (below_size (zb w))); replace HO_6 := rb HO_6 hb; replace HO189 := rb HO189 hb; replace BK172 := bb BK172 hb; replace BK173 := bb BK173 hb; replace BK174 := bb BK174 hb; replace BK175 := bb BK175 hb; replace HB := hs w hb; (try clear hb); (try clear ho0); have hnb41 := NB173_172.out; have hnc41 := NB172_173.out; have hnb42 := NB173_174.out; have hnc42 := NB174_173.out; have hnb43 := NB173_175.out; have hnc43 := NB175_173.out; obtain ⟨hcz44_0, hcz44_1, hfz44_0, hfz44_1⟩ := cz2 BK173; obtain ⟨Ao45, co45, eo45⟩ := Kd.V_slice HO195.out; subst eo45) | ((with_reducible refine gC 64 rfl ?_); refine gl_ 45 Tryd.func64 #[.slice Ao45 t193.length co45, .slice A1_1 l1_1.length c1_1] ?_; (with_reducible refine (whole_compare.calls k1 _ _ t193 _ _ l1_1 t196 _ ?side1 ?side2 (zc HR1_1) HC1_1.out A27.out).mono ?_); (case side1 => repeat (first | exact (Kd.V_reads' HO195.out).2.2 | (with_reducible refine Kd.C_alloc ?_ _) | (with_reducible refine Kd.C_drewN ?_ _) | (with_reducible refine Kd.C_drew ?_))); (case side2 => exact (Kd.V_reads' HO195.out).2.1); rintro e w46 ⟨rfl, hb⟩; refine ⟨_, rfl, ?_⟩; replace HO_6 := rb HO_6 hb; replace HO_7 := Aside0.mk (Kd.V_below (by (with_reducible repeat (first | apply Kd.V_alloc | apply Kd.V_drewN | apply Kd.V_drew)); exact HO_7.out) hb); replace HO189 := rb HO189 hb; replace HO195 := Aside0.mk (Kd.V_below (by (with_reducible repeat (first | apply Kd.V_alloc | apply Kd.V_drewN | apply Kd.V_drew)); exact HO195.out) hb); replace BK172 := bb BK172 hb; replace BK173 := bb BK173 hb; replace BK174 := bb BK174 hb; replace BK175 := bb BK175 hb; replace HB := hs w hb; (try clear hb); obtain ⟨hcz47_0, hcz47_1, hfz47_0, hfz47_1⟩ := cz2 BK173) | ((with_reducible refine gC 65 rfl ?_); refine gl_ 50 Tryd.func65 #[.slice Ao45 t193.length co45, .slice A1_1 l1_1.length c1_1] ?_; (with_reducible refine (whole_less.calls k1 _ _ t193 _ _ l1_1 t197 _ ?side1 ?side2 (zc HR1_1) HC1_1.out A29.out).mono ?_); (case side1 => repeat (first | exact (Kd.V_reads' HO195.out).2.2 | (with_reducible refine Kd.C_alloc ?_ _) | (with_reducible refine Kd.C_drewN ?_ _) | (with_reducible refine Kd.C_drew ?_))); (case side2 => exact (Kd.V_reads' HO195.out).2.1); rintro e w48 ⟨v198, rfl, ho0, hb⟩; refine ⟨_, rfl, ?_⟩; replace HO_7 := Aside0.mk (Kd.V_below (by (with_reducible repeat (first | apply Kd.V_alloc | apply Kd.V_drewN | apply Kd.V_drew)); exact HO_7.out) hb); replace HO195 := Aside0.mk (Kd.V_below (by (with_reducible repeat (first | apply Kd.V_alloc | apply Kd.V_drewN | apply Kd.V_drew)); exact HO195.out) hb); have HO199 := Aside0.mk (Kd.V_lower (Kd.V_mono (ok' := fun k_ => (w.heap.size ≤ k_) ∧ some k_ ≠ (v177 : Value).ownBlock ∧ some k_ ≠ (.slice (some ⟨go25, 0, none⟩) t187.length co37 : Value).ownBlock ∧ k_ ≠ gb172 ∧ k_ ≠ gb173 ∧ k_ ≠ gb174 ∧ k_ ≠ gb175) ho0 (fun k_ hk_ => ⟨(Nat.le_trans (below_size (zb w)) hk_), (Kd.fresh' (Kd.R_lt (zo HO_6)) k_ hk_), (Kd.fresh' (Kd.R_lt (zo HO189)) k_ hk_), (Kd.freshB (g := gb172) (o := .cells #[.bool a0_0, .slice (some ad191) l0_1.length c0_1] 85 (0, 0)) (zk BK172) k_ hk_), (Kd.freshB (g := gb173) (o := .cells #[.bool a1_0, .slice A1_1 l1_1.length c1_1] 85 (0, 0)) (zk BK173) k_ hk_), (Kd.freshB (g := gb174) (o := .cells #[.bool false, .slice none 0 0] 85 (0, 0)) (zk BK174) k_ hk_), (Kd.freshB (g := gb175) (o := .cells #[.bool false, .slice none 0 0] 85 (0, 0)) (zk BK175) k_ hk_)⟩)) (below_size (zb w))); replace HO_6 := rb HO_6 hb; replace HO189 := rb HO189 hb; replace BK172 := bb BK172 hb; replace BK173 := bb BK173 hb; replace BK174 := bb BK174 hb; replace BK175 := bb BK175 hb; replace HB := hs w hb; (try clear hb); (try clear ho0)))
            have n0_ := Aside0.mk (Kd.R_drew HO_6.out)
            have n1_ := Aside0.mk (Kd.V_drew HO_7.out)
            have n2_ := Aside0.mk (Kd.R_drew HO189.out)
            have n3_ := Aside0.mk (Kd.V_drew HO195.out)
            have n4_ := Aside0.mk (Kd.V_drew HO199.out)
            have n5_ := Aside0.mk (blk_drew BK172.out)
            have n6_ := Aside0.mk (blk_drew BK173.out)
            have n7_ := Aside0.mk (blk_drew BK174.out)
            have n8_ := Aside0.mk (blk_drew BK175.out)
            have n9_ := Aside0.mk (below_drew1 HB.out)
            clear HO_6
            clear HO_7
            clear HO189
            clear HO195
            clear HO199
            clear BK172
            clear BK173
            clear BK174
            clear BK175
            clear HB
            have HO_6 := n0_
            have HO_7 := n1_
            have HO189 := n2_
            have HO195 := n3_
            have HO199 := n4_
            have BK172 := n5_
            have BK173 := n6_
            have BK174 := n7_
            have BK175 := n8_
            have HB := n9_
            clear n0_ n1_ n2_ n3_ n4_ n5_ n6_ n7_ n8_ n9_
            obtain ⟨Ao50, co50, eo50⟩ := Kd.R_slice HO_6.out
            (first | subst eo50 | (injection eo50 with f1_ f2_ f3_; have f4_ := f1_.symm; have f5_ := f3_.symm; clear f1_ f2_ f3_; subst f4_; subst f5_))
            have p200 : 0 ≤ ((ji19) : Int) := of_decide_eq_true (by assumption)
            have q200 : (ji19) < (x6_1.length : Int) := of_decide_eq_true (by assumption)
            obtain ⟨ad200, e200, hx200_0⟩ := Kd.at_int (Kd.R_reads' HO_6.out).2.2 (ji19) p200 q200
            cases e200
            replace p200 := eq_true p200
            replace q200 := eq_true q200
            have p33 : 0 ≤ ((ji19) : Int) := of_decide_eq_true (by assumption)
            have q33 : ((ji19) : Int) < ((x6_1.length : Int) : Int) := of_decide_eq_true (by assumption)
            obtain ⟨go33, co33, eo33, gb33, gl33, cl33, HG33⟩ := Kd.R_form HO_6.out (by omega)
            (first | cases eo33 | (injection eo33 with ea_ en_ ec_; (first | subst ea_ | (injection ea_ with ea_; subst ea_)); subst ec_; clear en_))
            have GB33 := Aside0.mk gb33
            have GG33 := Aside0.mk HG33
            clear gb33 gl33 HG33
            (first | simp only [add_plain] at hx200_0 | skip)
            obtain ⟨hx33_0, hf33_0⟩ := Kd.R_celln 0 HO_6.out ((ji19) : Int) p33 q33
            replace p33 := eq_true p33
            replace q33 := eq_true q33
            have HP51 := Kd.R_putn HO_6.out ((ji19) : Int) (Go.bits .or .u32 (rd x6_1 (ji19)) (ji32))
            rw [← Ny201.out] at HP51
            have HQ51 := Aside0.mk HP51
            clear HP51
            refine start_ (n := 11) (S := fun w' => w'.cell? ⟨go33, ((ji19)).toNat, none⟩ = some (.int .u32 (rd x6_1 (ji19)))) (ds := [10]) (bm 11 0) (by kernel_rfl) rfl rfl (hx200_0) (fun hHeld => ?_); refine with_tabW whole_Int_By.tab11 whole_Int_By.bits11 (fun HT_ HW_ => ?_)
            generalize w48.drew = w49 at HO_6 HO_7 HO189 HO195 HO199 BK172 BK173 BK174 BK175 HB GG33 HQ51 hf33_0 hx200_0 hx33_0 hHeld ⊢
            refine pu 0 51 (bm 11 1) HT_ ?_
            refine pu 1 52 (bm 11 3) HT_ ?_
            refine pu 2 53 (bm 11 7) HT_ ?_
            refine pu 3 54 (bm 11 15) HT_ ?_
            refine pu 5 56 (bm 11 47) HT_ ?_
            refine pu 6 57 (bm 11 111) HT_ ?_
            refine pu 7 58 (bm 11 239) HT_ ?_
            refine take_ (i := 4) (N := some 55) (v := ?_) (a' := ?_) (bm 11 255) rfl rfl (take_ofW HT_.out HW_.out (by kernel_rfl)) (fun _ _ _ h => h) (Or.inl ⟨by rfl, ?_⟩) hHeld ?_ ?_
            rotate_left
            ·intro w' s0
             go_simp
             with_reducible rfl
            rotate_left
            ·simp only [sq, i64_w, i32_w]
             rfl
            refine pu 8 59 (bm 11 511) HT_ ?_
            refine pu 9 60 (bm 11 1023) HT_ ?_
            refine last_ (i := 10) (N := none) (bm 11 2047) rfl rfl (one_of HT_.out (by kernel_rfl)) (by decide) (fun K hK => ?_)
            refine skip_ (w1 := ?_) (by rfl) rfl ?_ ?_
            rotate_left
            ·go_simp
             rfl
            refine hK.out _ _ ?_
            clear hK K
            refine done_ (done_of HT_.out (by kernel_rfl)) ?_
            try go_wp2
            go_roundg k1
            case measure => have := HK1.out; omega
            case rel => exact ⟨(y201), (t197), (wrap64 (x8_1 - 1)), ar, H', ⟨by have := HK1.out; omega⟩, ⟨by (with_reducible repeat (first | apply Kd.R_alloc | apply Kd.R_drewN | apply Kd.R_drew)); exact Kd.R_mono HQ51.out (fun _ hk => hk.1)⟩, ⟨by (with_reducible repeat (first | apply Kd.V_alloc | apply Kd.V_drewN | apply Kd.V_drew)); exact Kd.V_mono (Kd.V_far (p := ⟨go33, ((ji19) : Int).toNat, none⟩) (Kd.V_mono HO199.out (fun k_ hk => (⟨hk, fun e_ => hk.2.1 (by rw [e_]; rfl)⟩ : _ ∧ k_ ≠ go33))) (fun _ hk => hk.2) (.int .u32 (Go.bits .or .u32 (rd x6_1 (ji19)) (ji32)))) (fun _ hk => ⟨hk.1.1, ⟨hk.1.2.1, ⟨hk.1.2.2.2.1, ⟨hk.1.2.2.2.2.1, ⟨hk.1.2.2.2.2.2.1, hk.1.2.2.2.2.2.2⟩⟩⟩⟩⟩)⟩, ⟨by (with_reducible repeat (first | refine blk_drewN ?_ _ | refine blk_drew ?_ | refine blk_alloc ?_ _)); refine blk_far ?_ (by have h_ := Kd.R_ne HO_6.out BK172.out (by decide); intro e_; exact h_ (by rw [e_]; rfl)) _; exact zk BK172⟩, ⟨by (with_reducible repeat (first | refine blk_drewN ?_ _ | refine blk_drew ?_ | refine blk_alloc ?_ _)); refine blk_far ?_ (by have h_ := Kd.R_ne HO_6.out BK173.out (by decide); intro e_; exact h_ (by rw [e_]; rfl)) _; exact zk BK173⟩, ⟨by (with_reducible repeat (first | refine blk_drewN ?_ _ | refine blk_drew ?_ | refine blk_alloc ?_ _)); refine blk_far ?_ (by have h_ := Kd.R_ne HO_6.out BK174.out (by decide); intro e_; exact h_ (by rw [e_]; rfl)) _; exact zk BK174⟩, ⟨by (with_reducible repeat (first | refine blk_drewN ?_ _ | refine blk_drew ?_ | refine blk_alloc ?_ _)); refine blk_far ?_ (by have h_ := Kd.R_ne HO_6.out BK175.out (by decide); intro e_; exact h_ (by rw [e_]; rfl)) _; exact zk BK175⟩, ⟨(zb w)⟩⟩
           ·rw [if_neg c30] at H
            exact absurd H (by simp)
          ·rw [if_neg c28] at H
           have c28b0 : decide (0 ≤ t196) = false := decide_eq_false c28
           clear c28
           have H' := Aside0.mk H
           clear H
           obtain ⟨Ao52, co52, eo52⟩ := Kd.V_slice HO_7.out
           subst eo52
           try go_wp2_with (first | ((with_reducible refine gC 62 rfl ?_); refine gl_ 24 Tryd.func62 #[.slice Ao52 x7_1.length co52, .slice Ao52 x7_1.length co52] ?_; (with_reducible refine (whole_sum.calls k1 _ _ x7_1 _ _ x7_1 t187 _ ?side1 ?side2 ?side3 ?side4 A17.out).mono ?_); (case side1 => repeat (first | exact (Kd.V_reads' HO_7.out).2.2 | (with_reducible refine Kd.C_alloc ?_ _) | (with_reducible refine Kd.C_drewN ?_ _) | (with_reducible refine Kd.C_drew ?_))); (case side2 => exact (Kd.V_reads' HO_7.out).2.1); (case side3 => repeat (first | exact (Kd.V_reads' HO_7.out).2.2 | (with_reducible refine Kd.C_alloc ?_ _) | (with_reducible refine Kd.C_drewN ?_ _) | (with_reducible refine Kd.C_drew ?_))); (case side4 => exact (Kd.V_reads' HO_7.out).2.1); rintro e w53 ⟨v188, rfl, ho0, hb⟩; refine ⟨_, rfl, ?_⟩; replace HO_7 := Aside0.mk (Kd.V_elder' (by (with_reducible repeat (first | apply Kd.V_alloc | apply Kd.V_drewN | apply Kd.V_drew)); exact HO_7.out) (Kd.R_base ho0) hb); have HO189 := Aside0.mk (Kd.R_lower (Kd.R_new' (Kd.R_newM (M := fun k_ => (w.heap.size ≤ k_)) ho0 (below_size (zb w)) (fun k_ h_ => h_)) (Kd.R_lt (zo HO_6))) (below_size (zb w))); replace HO_6 := Aside0.mk (Kd.R_elder' (zo HO_6) (Kd.R_base ho0) hb); replace BK172 := bb BK172 hb; replace BK173 := bb BK173 hb; replace BK174 := bb BK174 hb; replace BK175 := bb BK175 hb; replace HB := hs w hb; (try clear hb); (try clear ho0)))
           have n0_ := Aside0.mk (Kd.R_drew HO_6.out)
           have n1_ := Aside0.mk (Kd.V_drew HO_7.out)
           have n2_ := Aside0.mk (Kd.R_drew HO189.out)
           have n3_ := Aside0.mk (blk_drew BK172.out)
           have n4_ := Aside0.mk (blk_drew BK173.out)
           have n5_ := Aside0.mk (blk_drew BK174.out)
           have n6_ := Aside0.mk (blk_drew BK175.out)
           have n7_ := Aside0.mk (below_drew1 HB.out)
           clear HO_6
           clear HO_7
           clear HO189
           clear BK172
           clear BK173
           clear BK174
           clear BK175
           clear HB
           have HO_6 := n0_
           have HO_7 := n1_
           have HO189 := n2_
           have BK172 := n3_
           have BK173 := n4_
           have BK174 := n5_
           have BK175 := n6_
           have HB := n7_
           clear n0_ n1_ n2_ n3_ n4_ n5_ n6_ n7_
           obtain ⟨Ao55, co55, eo55⟩ := Kd.R_slice HO189.out
           (first | subst eo55 | (injection eo55 with f1_ f2_ f3_; have f4_ := f1_.symm; have f5_ := f3_.symm; clear f1_ f2_ f3_; subst f4_; subst f5_))
           have p190 : 0 ≤ (0 : Int) := (by omega)
           have q190 : 0 < (t187.length : Int) := of_decide_eq_true (by assumption)
           obtain ⟨ad190, e190, hx190_0⟩ := Kd.at_int (Kd.R_reads' HO189.out).2.2 0 p190 q190
           cases e190
           have qi190 : (0 < t187.length) = True := eq_true (by omega)
           (try rw [show ((0 : Int)).toNat = 0 from rfl] at hx190_0)
           (try rw [Addr.add_zero'] at hx190_0)
           replace p190 := eq_true p190
           replace q190 := eq_true q190
           have p191 : 0 ≤ ((ji19) : Int) := of_decide_eq_true (by assumption)
           have q191 : (ji19) < (l0_1.length : Int) := of_decide_eq_true (by assumption)
           obtain ⟨ad191, e191, hx191_0⟩ := Kd.at_int HR0_1.out (ji19) p191 q191
           have hw191_0 := hx191_0
           cases e191
           replace hx191_0 := hz HB hx191_0
           replace p191 := eq_true p191
           replace q191 := eq_true q191
           have p25 : 0 ≤ (0 : Int) := (by omega)
           have q25 : (0 : Int) < ((t187.length : Int) : Int) := of_decide_eq_true (by assumption)
           have qi25 : (0 < t187.length) = True := eq_true (by omega)
           obtain ⟨go25, co25, eo25, gb25, gl25, cl25, HG25⟩ := Kd.R_form HO189.out (by omega)
           (first | cases eo25 | (injection eo25 with ea_ en_ ec_; (first | subst ea_ | (injection ea_ with ea_; subst ea_)); subst ec_; clear en_))
           have GB25 := Aside0.mk gb25
           have GG25 := Aside0.mk HG25
           clear gb25 gl25 HG25
           (first | simp only [add_plain] at hx190_0 | skip)
           obtain ⟨hx25_0, hf25_0⟩ := Kd.R_celln 0 HO189.out (0 : Int) p25 q25
           (try rw [show ((0 : Int)).toNat = 0 from rfl] at hx25_0)
           (try simp only [Nat.reduceMul, Nat.zero_mul, Nat.zero_add, Nat.reduceAdd] at hx25_0)
           (try rw [show ((0 : Int)).toNat = 0 from rfl] at hf25_0)
           (try simp only [Nat.reduceMul, Nat.zero_mul, Nat.zero_add, Nat.reduceAdd] at hf25_0)
           replace p25 := eq_true p25
           replace q25 := eq_true q25
           have HP56 := Kd.R_putn HO189.out (0 : Int) (Go.bits .or .u32 (rd t187 0) (Go.bits .and .u32 (ji24) 1))
           rw [← Ny192.out] at HP56
           have HQ56 := Aside0.mk HP56
           clear HP56
           refine start_ (n := 16) (S := fun w' => w'.cell? ⟨gb172, 0, none⟩ = some (.bool a0_0) ∧ w'.cell? ⟨gb172, 1, none⟩ = some (.slice (some ad191) l0_1.length c0_1) ∧ w'.cell? ⟨go25, 0, none⟩ = some (.int .u32 (rd t187 0)) ∧ w'.cell? (ad191.add ((ji19)).toNat) = some (.int .u32 (rd l0_1 (ji19)))) (ds := [15]) (bm 16 0) (by kernel_rfl) rfl rfl ⟨(blk_cell BK172.out 0).trans rfl, (blk_cell BK172.out 1).trans rfl, hx190_0, ((HB.out.cell (World.block_lt_of_cell? w _ hw191_0)).trans hw191_0)⟩ (fun hHeld => ?_); refine with_tabW whole_Int_By.tab7 whole_Int_By.bits7 (fun HT_ HW_ => ?_)
           generalize w53.drew = w54 at HO_6 HO_7 HO189 BK172 BK173 BK174 BK175 HB GG25 HQ56 hf25_0 hx190_0 hx191_0 hx25_0 hHeld ⊢
           refine pu 0 25 (bm 16 1) HT_ ?_
           refine pu 1 26 (bm 16 3) HT_ ?_
           refine pu 3 28 (bm 16 11) HT_ ?_
           refine pu 5 30 (bm 16 43) HT_ ?_
           refine pu 6 31 (bm 16 107) HT_ ?_
           refine pu 9 34 (bm 16 619) HT_ ?_
           refine pu 10 35 (bm 16 1643) HT_ ?_
           refine ta4 2 27 (bm 16 1647) HT_ HW_ hHeld ?_
           refine ta4 4 29 (bm 16 1663) HT_ HW_ hHeld ?_
           refine pu 7 32 (bm 16 1791) HT_ ?_
           refine ta4 8 33 (bm 16 2047) HT_ HW_ hHeld ?_
           refine pu 11 36 (bm 16 4095) HT_ ?_
           refine pu 12 37 (bm 16 8191) HT_ ?_
           refine pu 13 38 (bm 16 16383) HT_ ?_
           refine pu 14 39 (bm 16 32767) HT_ ?_
           refine last_ (i := 15) (N := none) (bm 16 65535) rfl rfl (one_of HT_.out (by kernel_rfl)) (by decide) (fun K hK => ?_)
           refine skip_ (w1 := ?_) (by rfl) rfl ?_ ?_
           rotate_left
           ·go_simp
            rfl
           refine hK.out _ _ ?_
           clear hK K
           refine done_ (done_of HT_.out (by kernel_rfl)) ?_
           have n0_ : Aside0 (Kd.R (Kd.int .u32) 99 (w54.setCell ⟨go25, 0, none⟩ (.int .u32 (Go.bits .or .u32 (rd t187 0) (Go.bits .and .u32 (ji24) 1)))) w.heap.size (fun k_ => (w.heap.size ≤ k_) ∧ some k_ ≠ (.slice (some ⟨go25, 0, none⟩) t187.length co55 : Value).ownBlock) v177 x6_1) := ⟨by (with_reducible repeat (first | apply Kd.R_alloc | apply Kd.R_drewN | apply Kd.R_drew)); exact Kd.R_mono (Kd.R_far (p := ⟨go25, 0, none⟩) (Kd.R_mono HO_6.out (fun k_ hk => (⟨hk, fun e_ => hk.2 (by rw [e_]; rfl)⟩ : _ ∧ k_ ≠ go25))) (fun _ hk => hk.2) (.int .u32 (Go.bits .or .u32 (rd t187 0) (Go.bits .and .u32 (ji24) 1)))) (fun _ hk => ⟨hk.1.1, hk.1.2⟩)⟩
           have n1_ : Aside0 (Kd.V (Kd.int .u32) 99 (w54.setCell ⟨go25, 0, none⟩ (.int .u32 (Go.bits .or .u32 (rd t187 0) (Go.bits .and .u32 (ji24) 1)))) w.heap.size (fun k_ => (w.heap.size ≤ k_) ∧ some k_ ≠ (v177 : Value).ownBlock ∧ some k_ ≠ (.slice (some ⟨go25, 0, none⟩) t187.length co55 : Value).ownBlock ∧ k_ ≠ gb172 ∧ k_ ≠ gb173 ∧ k_ ≠ gb174 ∧ k_ ≠ gb175) (.slice Ao52 x7_1.length co52) x7_1) := ⟨by (with_reducible repeat (first | apply Kd.V_alloc | apply Kd.V_drewN | apply Kd.V_drew)); exact Kd.V_mono (Kd.V_far (p := ⟨go25, 0, none⟩) (Kd.V_mono HO_7.out (fun k_ hk => (⟨hk, fun e_ => hk.2 (by rw [e_]; rfl)⟩ : _ ∧ k_ ≠ go25))) (fun _ hk => hk.2) (.int .u32 (Go.bits .or .u32 (rd t187 0) (Go.bits .and .u32 (ji24) 1)))) (fun _ hk => ⟨hk.1.1.1, ⟨hk.1.1.2.1, ⟨hk.1.2, ⟨hk.1.1.2.2.1, ⟨hk.1.1.2.2.2.1, ⟨hk.1.1.2.2.2.2.1, hk.1.1.2.2.2.2.2⟩⟩⟩⟩⟩⟩)⟩
           have n2_ : Aside0 (Kd.R (Kd.int .u32) 99 (w54.setCell ⟨go25, 0, none⟩ (.int .u32 (Go.bits .or .u32 (rd t187 0) (Go.bits .and .u32 (ji24) 1)))) w.heap.size (fun k_ => (w.heap.size ≤ k_) ∧ some k_ ≠ (v177 : Value).ownBlock) (.slice (some ⟨go25, 0, none⟩) t187.length co55) y192) := ⟨by (with_reducible repeat (first | apply Kd.R_alloc | apply Kd.R_drewN | apply Kd.R_drew)); exact Kd.R_mono HQ56.out (fun _ hk => ⟨hk.1.1, hk.2⟩)⟩
           have n3_ : Aside0 ((w54.setCell ⟨go25, 0, none⟩ (.int .u32 (Go.bits .or .u32 (rd t187 0) (Go.bits .and .u32 (ji24) 1)))).heap[gb172]? = some (.cells #[.bool a0_0, .slice (some ad191) l0_1.length c0_1] 85 (0, 0))) := ⟨by (with_reducible repeat (first | refine blk_drewN ?_ _ | refine blk_drew ?_ | refine blk_alloc ?_ _)); refine blk_far ?_ (by have h_ := Kd.R_ne HO189.out BK172.out (by decide); intro e_; exact h_ (by rw [e_]; rfl)) _; exact zk BK172⟩
           have n4_ : Aside0 ((w54.setCell ⟨go25, 0, none⟩ (.int .u32 (Go.bits .or .u32 (rd t187 0) (Go.bits .and .u32 (ji24) 1)))).heap[gb173]? = some (.cells #[.bool a1_0, .slice A1_1 l1_1.length c1_1] 85 (0, 0))) := ⟨by (with_reducible repeat (first | refine blk_drewN ?_ _ | refine blk_drew ?_ | refine blk_alloc ?_ _)); refine blk_far ?_ (by have h_ := Kd.R_ne HO189.out BK173.out (by decide); intro e_; exact h_ (by rw [e_]; rfl)) _; exact zk BK173⟩
           have n5_ : Aside0 ((w54.setCell ⟨go25, 0, none⟩ (.int .u32 (Go.bits .or .u32 (rd t187 0) (Go.bits .and .u32 (ji24) 1)))).heap[gb174]? = some (.cells #[.bool false, .slice none 0 0] 85 (0, 0))) := ⟨by (with_reducible repeat (first | refine blk_drewN ?_ _ | refine blk_drew ?_ | refine blk_alloc ?_ _)); refine blk_far ?_ (by have h_ := Kd.R_ne HO189.out BK174.out (by decide); intro e_; exact h_ (by rw [e_]; rfl)) _; exact zk BK174⟩
           have n6_ : Aside0 ((w54.setCell ⟨go25, 0, none⟩ (.int .u32 (Go.bits .or .u32 (rd t187 0) (Go.bits .and .u32 (ji24) 1)))).heap[gb175]? = some (.cells #[.bool false, .slice none 0 0] 85 (0, 0))) := ⟨by (with_reducible repeat (first | refine blk_drewN ?_ _ | refine blk_drew ?_ | refine blk_alloc ?_ _)); refine blk_far ?_ (by have h_ := Kd.R_ne HO189.out BK175.out (by decide); intro e_; exact h_ (by rw [e_]; rfl)) _; exact zk BK175⟩
           have n7_ : Aside0 (Below w.heap.size w (w54.setCell ⟨go25, 0, none⟩ (.int .u32 (Go.bits .or .u32 (rd t187 0) (Go.bits .and .u32 (ji24) 1))))) := ⟨(zb w)⟩
           (try clear HO_6)
           (try clear HO_7)
           (try clear HO189)
           (try clear BK172)
           (try clear BK173)
           (try clear BK174)
           (try clear BK175)
           (try clear HB)
           generalize (w54.setCell ⟨go25, 0, none⟩ (.int .u32 (Go.bits .or .u32 (rd t187 0) (Go.bits .and .u32 (ji24) 1)))) = w57 at n0_ n1_ n2_ n3_ n4_ n5_ n6_ n7_ ⊢
           have HO_6 := n0_
           have HO_7 := n1_
           have HO189 := n2_
           have BK172 := n3_
           have BK173 := n4_
           have BK174 := n5_
           have BK175 := n6_
           have HB := n7_
           clear n0_ n1_ n2_ n3_ n4_ n5_ n6_ n7_
           try go_wp2_with (first | ((with_reducible refine gC 63 rfl ?_); refine gl_ 41 Tryd.func63 #[.slice (some ⟨go25, 0, none⟩) y192.length co55] ?_ (hargs := by (try simp only [List.map_toArray, List.map_cons, List.map_nil]); first | done | (rw [show y192.length = t187.length from (Kd.R_reads' HO189.out).1.symm] <;> rfl) | rfl | (simp only [List.length_drop, List.length_take]; rfl) | (simp only [R_ww1, R_ww2]; rfl)); (with_reducible refine (whole_trimmed.calls k1 (fun k_ => some k_ = (.slice (some ⟨go25, 0, none⟩) t187.length co55 : Value).ownBlock) _ _ y192 t193 _ ?side1 A26.out).mono ?_); (case side1 => rw [show y192.length = t187.length from (Kd.R_reads' HO189.out).1.symm]; exact Kd.R_V (Kd.R_tight rfl (Kd.R_types (Kd.R_types (Kd.R_types (Kd.R_types (HO189.out) BK172.out (by decide)) BK173.out (by decide)) BK174.out (by decide)) BK175.out (by decide)))); rintro e w58 ⟨v194, rfl, ho0, hb⟩; refine ⟨_, rfl, ?_⟩; replace HO_7 := Aside0.mk (Kd.V_below (by (with_reducible repeat (first | apply Kd.V_alloc | apply Kd.V_drewN | apply Kd.V_drew)); exact HO_7.out) hb); have HO195 := Aside0.mk (Kd.V_lower (Kd.V_mono (ok' := fun k_ => (w.heap.size ≤ k_) ∧ some k_ ≠ (v177 : Value).ownBlock ∧ k_ ≠ gb172 ∧ k_ ≠ gb173 ∧ k_ ≠ gb174 ∧ k_ ≠ gb175) ho0 (fun k_ hk_ => ⟨Or.elim hk_ (fun hs_ => ((Kd.R_types (Kd.R_types (Kd.R_types (Kd.R_types (HO189.out) BK172.out (by decide)) BK173.out (by decide)) BK174.out (by decide)) BK175.out (by decide)).1 k_ hs_.symm).1.1.1.1.1) (fun hn_ => (Nat.le_trans (below_size (zb w)) hn_)), Or.elim hk_ (fun hs_ => ((Kd.R_types (Kd.R_types (Kd.R_types (Kd.R_types (HO189.out) BK172.out (by decide)) BK173.out (by decide)) BK174.out (by decide)) BK175.out (by decide)).1 k_ hs_.symm).1.1.1.1.2) (fun hn_ => (Kd.fresh' (Kd.R_lt (zo HO_6)) k_ hn_)), Or.elim hk_ (fun hs_ => ((Kd.R_types (Kd.R_types (Kd.R_types (Kd.R_types (HO189.out) BK172.out (by decide)) BK173.out (by decide)) BK174.out (by decide)) BK175.out (by decide)).1 k_ hs_.symm).1.1.1.2) (fun hn_ => (Kd.freshB (g := gb172) (o := .cells #[.bool a0_0, .slice (some ad191) l0_1.length c0_1] 85 (0, 0)) (zk BK172) k_ hn_)), Or.elim hk_ (fun hs_ => ((Kd.R_types (Kd.R_types (Kd.R_types (Kd.R_types (HO189.out) BK172.out (by decide)) BK173.out (by decide)) BK174.out (by decide)) BK175.out (by decide)).1 k_ hs_.symm).1.1.2) (fun hn_ => (Kd.freshB (g := gb173) (o := .cells #[.bool a1_0, .slice A1_1 l1_1.length c1_1] 85 (0, 0)) (zk BK173) k_ hn_)), Or.elim hk_ (fun hs_ => ((Kd.R_types (Kd.R_types (Kd.R_types (Kd.R_types (HO189.out) BK172.out (by decide)) BK173.out (by decide)) BK174.out (by decide)) BK175.out (by decide)).1 k_ hs_.symm).1.2) (fun hn_ => (Kd.freshB (g := gb174) (o := .cells #[.bool false, .slice none 0 0] 85 (0, 0)) (zk BK174) k_ hn_)), Or.elim hk_ (fun hs_ => ((Kd.R_types (Kd.R_types (Kd.R_types (Kd.R_types (HO189.out) BK172.out (by decide)) BK173.out (by decide)) BK174.out (by decide)) BK175.out (by decide)).1 k_ hs_.symm).2) (fun hn_ => (Kd.freshB (g := gb175) (o := .cells #[.bool false, .slice none 0 0] 85 (0, 0)) (zk BK175) k_ hn_))⟩)) (below_size (zb w))); replace HO_6 := rb HO_6 hb; replace HO189 := rb HO189 hb; replace BK172 := bb BK172 hb; replace BK173 := bb BK173 hb; replace BK174 := bb BK174 hb; replace BK175 := bb BK175 hb; replace HB := hs w hb; (try clear hb); (try clear ho0); have hnb59 := NB173_172.out; have hnc59 := NB172_173.out; have hnb60 := NB173_174.out; have hnc60 := NB174_173.out; have hnb61 := NB173_175.out; have hnc61 := NB175_173.out; obtain ⟨hcz62_0, hcz62_1, hfz62_0, hfz62_1⟩ := cz2 BK173; obtain ⟨Ao63, co63, eo63⟩ := Kd.V_slice HO195.out; subst eo63) | ((with_reducible refine gC 64 rfl ?_); refine gl_ 45 Tryd.func64 #[.slice Ao63 t193.length co63, .slice A1_1 l1_1.length c1_1] ?_; (with_reducible refine (whole_compare.calls k1 _ _ t193 _ _ l1_1 t196 _ ?side1 ?side2 (zc HR1_1) HC1_1.out A27.out).mono ?_); (case side1 => repeat (first | exact (Kd.V_reads' HO195.out).2.2 | (with_reducible refine Kd.C_alloc ?_ _) | (with_reducible refine Kd.C_drewN ?_ _) | (with_reducible refine Kd.C_drew ?_))); (case side2 => exact (Kd.V_reads' HO195.out).2.1); rintro e w64 ⟨rfl, hb⟩; refine ⟨_, rfl, ?_⟩; replace HO_6 := rb HO_6 hb; replace HO_7 := Aside0.mk (Kd.V_below (by (with_reducible repeat (first | apply Kd.V_alloc | apply Kd.V_drewN | apply Kd.V_drew)); exact HO_7.out) hb); replace HO189 := rb HO189 hb; replace HO195 := Aside0.mk (Kd.V_below (by (with_reducible repeat (first | apply Kd.V_alloc | apply Kd.V_drewN | apply Kd.V_drew)); exact HO195.out) hb); replace BK172 := bb BK172 hb; replace BK173 := bb BK173 hb; replace BK174 := bb BK174 hb; replace BK175 := bb BK175 hb; replace HB := hs w hb; (try clear hb)))
           go_roundg k1
           case measure => have := HK1.out; omega
           case rel => exact ⟨(x6_1), (t193), (wrap64 (x8_1 - 1)), ar, H', ⟨by have := HK1.out; omega⟩, ⟨by (with_reducible repeat (first | apply Kd.R_alloc | apply Kd.R_drewN | apply Kd.R_drew)); exact Kd.R_mono HO_6.out (fun _ hk => hk.1)⟩, ⟨by (with_reducible repeat (first | apply Kd.V_alloc | apply Kd.V_drewN | apply Kd.V_drew)); exact HO195.out⟩, ⟨(zk BK172)⟩, ⟨(zk BK173)⟩, ⟨(zk BK174)⟩, ⟨(zk BK175)⟩, ⟨(zb w)⟩⟩
         ·rw [if_neg c23] at H
          exact absurd H (by simp)
        ·rw [if_neg c21] at H
         exact absurd H (by simp)
       ·rw [if_neg c20] at H
        exact absurd H (by simp)
      ·rw [if_neg c18] at H
       exact absurd H (by simp)
     ·rw [if_neg c16] at H
      have c16b0 : decide (0 ≤ x8_1) = false := decide_eq_false c16
      clear c16
      replace H := Option.bind_eq_some_iff.mp H
      obtain ⟨⟨t179, t180⟩, A650, H⟩ := H
      try dsimp only at H
      have A65 := Aside0.mk A650
      clear A650
      replace H := Option.bind_eq_some_iff.mp H
      obtain ⟨⟨t183, t184⟩, A660, H⟩ := H
      try dsimp only at H
      have A66 := Aside0.mk A660
      clear A660
      simp only [Option.some.injEq, Prod.mk.injEq] at H
      obtain ⟨rfl, rfl, rfl, rfl⟩ := H
      obtain ⟨Ao67, co67, eo67⟩ := Kd.R_slice HO_6.out
      subst eo67
      go_wp2_with (first | ((with_reducible refine gC 54 rfl ?_); refine gl_ 62 Tryd.func54 #[.bool false, .slice Ao67 x6_1.length co67] ?_; (with_reducible refine (whole_made.calls k1 false (fun k_ => some k_ = (.slice Ao67 x6_1.length co67 : Value).ownBlock) _ _ x6_1 t179 t180 _ ?side1 A65.out).mono ?_); (case side1 => exact Kd.R_V (Kd.R_tight rfl (Kd.R_types (Kd.R_types (Kd.R_types (Kd.R_types (HO_6.out) BK172.out (by decide)) BK173.out (by decide)) BK174.out (by decide)) BK175.out (by decide)))); rintro e w68 ⟨v181, rfl, ho0, hb⟩; refine ⟨_, rfl, ?_⟩; replace HO_7 := Aside0.mk (Kd.V_below (by (with_reducible repeat (first | apply Kd.V_alloc | apply Kd.V_drewN | apply Kd.V_drew)); exact HO_7.out) hb); have HO182 := Aside0.mk (Kd.V_lower (Kd.V_mono (ok' := fun k_ => (w.heap.size ≤ k_) ∧ k_ ≠ gb172 ∧ k_ ≠ gb173 ∧ k_ ≠ gb174 ∧ k_ ≠ gb175) ho0 (fun k_ hk_ => ⟨Or.elim hk_ (fun hs_ => ((Kd.R_types (Kd.R_types (Kd.R_types (Kd.R_types (HO_6.out) BK172.out (by decide)) BK173.out (by decide)) BK174.out (by decide)) BK175.out (by decide)).1 k_ hs_.symm).1.1.1.1) (fun hn_ => (Nat.le_trans (below_size (zb w)) hn_)), Or.elim hk_ (fun hs_ => ((Kd.R_types (Kd.R_types (Kd.R_types (Kd.R_types (HO_6.out) BK172.out (by decide)) BK173.out (by decide)) BK174.out (by decide)) BK175.out (by decide)).1 k_ hs_.symm).1.1.1.2) (fun hn_ => (Kd.freshB (g := gb172) (o := .cells #[.bool a0_0, .slice A0_1 l0_1.length c0_1] 85 (0, 0)) (zk BK172) k_ hn_)), Or.elim hk_ (fun hs_ => ((Kd.R_types (Kd.R_types (Kd.R_types (Kd.R_types (HO_6.out) BK172.out (by decide)) BK173.out (by decide)) BK174.out (by decide)) BK175.out (by decide)).1 k_ hs_.symm).1.1.2) (fun hn_ => (Kd.freshB (g := gb173) (o := .cells #[.bool a1_0, .slice A1_1 l1_1.length c1_1] 85 (0, 0)) (zk BK173) k_ hn_)), Or.elim hk_ (fun hs_ => ((Kd.R_types (Kd.R_types (Kd.R_types (Kd.R_types (HO_6.out) BK172.out (by decide)) BK173.out (by decide)) BK174.out (by decide)) BK175.out (by decide)).1 k_ hs_.symm).1.2) (fun hn_ => (Kd.freshB (g := gb174) (o := .cells #[.bool false, .slice none 0 0] 85 (0, 0)) (zk BK174) k_ hn_)), Or.elim hk_ (fun hs_ => ((Kd.R_types (Kd.R_types (Kd.R_types (Kd.R_types (HO_6.out) BK172.out (by decide)) BK173.out (by decide)) BK174.out (by decide)) BK175.out (by decide)).1 k_ hs_.symm).2) (fun hn_ => (Kd.freshB (g := gb175) (o := .cells #[.bool false, .slice none 0 0] 85 (0, 0)) (zk BK175) k_ hn_))⟩)) (below_size (zb w))); replace HO_6 := rb HO_6 hb; replace BK172 := bb BK172 hb; replace BK173 := bb BK173 hb; replace BK174 := bb BK174 hb; replace BK175 := bb BK175 hb; replace HB := hs w hb; (try clear hb); (try clear ho0); obtain ⟨Ao69, co69, eo69⟩ := Kd.V_slice HO_7.out; subst eo69) | ((with_reducible refine gC 54 rfl ?_); refine gl_ 64 Tryd.func54 #[.bool false, .slice Ao69 x7_1.length co69] ?_; (with_reducible refine (whole_made.calls k1 false (fun k_ => ((w.heap.size ≤ k_) ∧ (some k_ ≠ (.slice Ao67 x6_1.length co67 : Value).ownBlock ∧ (k_ ≠ gb172 ∧ (k_ ≠ gb173 ∧ (k_ ≠ gb174 ∧ k_ ≠ gb175)))))) _ _ x7_1 t183 t184 _ HO_7.out A66.out).mono ?_); rintro e w70 ⟨v185, rfl, ho0, hb⟩; refine ⟨_, rfl, ?_⟩; replace HO_7 := Aside0.mk (Kd.V_below (by (with_reducible repeat (first | apply Kd.V_alloc | apply Kd.V_drewN | apply Kd.V_drew)); exact HO_7.out) hb); replace HO182 := Aside0.mk (Kd.V_below (by (with_reducible repeat (first | apply Kd.V_alloc | apply Kd.V_drewN | apply Kd.V_drew)); exact HO182.out) hb); have HO186 := Aside0.mk (Kd.V_lower (Kd.V_mono (ok' := fun k_ => (w.heap.size ≤ k_) ∧ some k_ ≠ (.slice Ao67 x6_1.length co67 : Value).ownBlock ∧ k_ ≠ gb172 ∧ k_ ≠ gb173 ∧ k_ ≠ gb174 ∧ k_ ≠ gb175) ho0 (fun k_ hk_ => ⟨Or.elim hk_ (fun hs_ => hs_.1) (fun hn_ => (Nat.le_trans (below_size (zb w)) hn_)), Or.elim hk_ (fun hs_ => hs_.2.1) (fun hn_ => (Kd.fresh' (Kd.R_lt (zo HO_6)) k_ hn_)), Or.elim hk_ (fun hs_ => hs_.2.2.1) (fun hn_ => (Kd.freshB (g := gb172) (o := .cells #[.bool a0_0, .slice A0_1 l0_1.length c0_1] 85 (0, 0)) (zk BK172) k_ hn_)), Or.elim hk_ (fun hs_ => hs_.2.2.2.1) (fun hn_ => (Kd.freshB (g := gb173) (o := .cells #[.bool a1_0, .slice A1_1 l1_1.length c1_1] 85 (0, 0)) (zk BK173) k_ hn_)), Or.elim hk_ (fun hs_ => hs_.2.2.2.2.1) (fun hn_ => (Kd.freshB (g := gb174) (o := .cells #[.bool false, .slice none 0 0] 85 (0, 0)) (zk BK174) k_ hn_)), Or.elim hk_ (fun hs_ => hs_.2.2.2.2.2) (fun hn_ => (Kd.freshB (g := gb175) (o := .cells #[.bool false, .slice none 0 0] 85 (0, 0)) (zk BK175) k_ hn_))⟩)) (below_size (zb w))); replace HO_6 := rb HO_6 hb; replace BK172 := bb BK172 hb; replace BK173 := bb BK173 hb; replace BK174 := bb BK174 hb; replace BK175 := bb BK175 hb; replace HB := hs w hb; (try clear hb); (try clear ho0); have hnb71 := NB174_172.out; have hnc71 := NB172_174.out; have hnb72 := NB174_173.out; have hnc72 := NB173_174.out; have hnb73 := NB174_175.out; have hnc73 := NB175_174.out; obtain ⟨hcz74_0, hcz74_1, hfz74_0, hfz74_1⟩ := cz2 BK174; obtain ⟨Ao75, co75, eo75⟩ := Kd.V_slice HO182.out; subst eo75; have hnb76 := NB175_172.out; have hnc76 := NB172_175.out; have hnb77 := NB175_173.out; have hnc77 := NB173_175.out; obtain ⟨hcz78_0, hcz78_1, hfz78_0, hfz78_1⟩ := cz2 BK175; obtain ⟨Ao79, co79, eo79⟩ := Kd.V_slice HO186.out; subst eo79))
      refine bodyPost_ret (results_cc rfl _ _ gb174 gb175 85 85 #[.bool t179, .slice Ao75 t180.length co75] #[.bool t183, .slice Ao79 t184.length co79] (0, 0) (0, 0) _ _ rfl (by (with_reducible repeat (first | refine blk_drewN ?_ _ | refine blk_drew ?_ | refine blk_alloc ?_ _)); refine blk_far ?_ NB174_175.out _; (with_reducible repeat (first | refine blk_drewN ?_ _ | refine blk_drew ?_ | refine blk_alloc ?_ _)); refine blk_far ?_ NB174_175.out _; (with_reducible repeat (first | refine blk_drewN ?_ _ | refine blk_drew ?_ | refine blk_alloc ?_ _)); refine blk_put (cs := #[.bool t179, .slice none 0 0]) ?_ 1 _ rfl; (with_reducible repeat (first | refine blk_drewN ?_ _ | refine blk_drew ?_ | refine blk_alloc ?_ _)); refine blk_put (cs := #[.bool false, .slice none 0 0]) ?_ 0 _ rfl; exact zk BK174) Tryd.underlying85 rfl (by kernel_rfl) rfl (by (with_reducible repeat (first | refine blk_drewN ?_ _ | refine blk_drew ?_ | refine blk_alloc ?_ _)); refine blk_put (cs := #[.bool t183, .slice none 0 0]) ?_ 1 _ rfl; (with_reducible repeat (first | refine blk_drewN ?_ _ | refine blk_drew ?_ | refine blk_alloc ?_ _)); refine blk_put (cs := #[.bool false, .slice none 0 0]) ?_ 0 _ rfl; (with_reducible repeat (first | refine blk_drewN ?_ _ | refine blk_drew ?_ | refine blk_alloc ?_ _)); refine blk_far ?_ NB175_174.out _; (with_reducible repeat (first | refine blk_drewN ?_ _ | refine blk_drew ?_ | refine blk_alloc ?_ _)); refine blk_far ?_ NB175_174.out _; exact zk BK175) Tryd.underlying85 rfl (by kernel_rfl)) rfl ?_
      exact ⟨_, _, by first | rfl | (simp [errW_none, errW_some] <;> rfl) | (simp [*, errW_none, errW_some] <;> rfl), by (with_reducible repeat (first | apply Kd.V_alloc | apply Kd.V_drewN | apply Kd.V_drew)); exact Kd.V_mono (Kd.V_far (p := ⟨gb175, 1, none⟩) (Kd.V_far (p := ⟨gb175, 0, none⟩) (Kd.V_far (p := ⟨gb174, 1, none⟩) (Kd.V_far (p := ⟨gb174, 0, none⟩) (Kd.V_mono (Kd.V_mono HO182.out (fun k_ hk => (⟨hk, hk.2.2.2.1⟩ : _ ∧ k_ ≠ gb174))) (fun k_ hk => (⟨hk, hk.1.2.2.2.2⟩ : _ ∧ k_ ≠ gb175))) (fun _ hk => hk.1.2) (.bool t179)) (fun _ hk => hk.1.2) (.slice Ao75 t180.length co75)) (fun _ hk => hk.2) (.bool t183)) (fun _ hk => hk.2) (.slice Ao79 t184.length co79)) (fun _ hk => hk.1.1.1), by (with_reducible repeat (first | apply Kd.V_alloc | apply Kd.V_drewN | apply Kd.V_drew)); exact Kd.V_mono (Kd.V_far (p := ⟨gb175, 1, none⟩) (Kd.V_far (p := ⟨gb175, 0, none⟩) (Kd.V_far (p := ⟨gb174, 1, none⟩) (Kd.V_far (p := ⟨gb174, 0, none⟩) (Kd.V_mono (Kd.V_mono HO186.out (fun k_ hk => (⟨hk, hk.2.2.2.2.1⟩ : _ ∧ k_ ≠ gb174))) (fun k_ hk => (⟨hk, hk.1.2.2.2.2.2⟩ : _ ∧ k_ ≠ gb175))) (fun _ hk => hk.1.2) (.bool t179)) (fun _ hk => hk.1.2) (.slice Ao75 t180.length co75)) (fun _ hk => hk.2) (.bool t183)) (fun _ hk => hk.2) (.slice Ao79 t184.length co79)) (fun _ hk => hk.1.1.1), (zb w)⟩
  ·rw [if_neg c4] at H
   exact absurd H (by simp)
 ·rw [if_neg c3] at H
  exact absurd H (by simp)

/-! ### whole_Int_Sign: function 51 -/
def whole_Int_Sign.f (a0_0 : Bool) (l0_1 : List Int) : Option (Int) := if a0_0 = true then (some (-1)) else (if (l0_1.length : Int) = 0 then (some 0) else (some 1))
set_option maxHeartbeats 8000000 in
set_option maxRecDepth 100000 in
theorem whole_Int_Sign.calls (a0_0 : Bool) (A0_1 : Option Addr) (c0_1 : Nat) (l0_1 : List Int) (r : Int) (w : World) (hr0_1 : Kd.C (Kd.int .u32) w A0_1 l0_1.length l0_1) (hc0_1 : l0_1.length ≤ c0_1) (h : whole_Int_Sign.f a0_0 l0_1 = some r) :
  Calls Tryd.prog 51 #[.agg #[.bool a0_0, .slice A0_1 l0_1.length c0_1]] w fun e w' => e = .returned (.int .i64 r) ∧ Below w.heap.size w w' := by
 have hu85 := Tryd.underlying85
 have HR0_1 := Aside0.mk hr0_1
 have HC0_1 := Aside0.mk hc0_1
 clear hr0_1 hc0_1
 have HB := Aside0.mk (Below.refl w.heap.size w)
 have H := h
 unfold whole_Int_Sign.f at H
 clear h
 by_cases c2 : a0_0 = true
 ·subst c2
  have H1 : (some (-1)) = some r := by rw [if_pos rfl] at H; exact H
  clear H
  have H := H1
  clear H1
  obtain rfl := Option.some.inj H
  go_enter Tryd.func51, Tryd.ntmps51
  go_wp2_with (first | ((with_reducible refine gD 1 rfl ?_); refine bx w 1 #[.bool true, .slice A0_1 l0_1.length c0_1] 85 ?_; intro gb202 hg w3 hb BK202 GW202 GE202; clear HB; intro HB; clear hb hg; obtain ⟨hcz4_0, hcz4_1, hfz4_0, hfz4_1⟩ := cz2 BK202))
  go_ret
  exact ⟨by first | rfl | (simp [errW_none, errW_some] <;> rfl) | (simp [*, errW_none, errW_some] <;> rfl), (zb w)⟩
 ·replace c2 := Bool.eq_false_iff.mpr c2
  subst c2
  have H1 : (if (l0_1.length : Int) = 0 then (some 0) else (some 1)) = some r := by rw [if_neg (show ¬ (false = true) by decide)] at H; exact H
  clear H
  have H := H1
  clear H1
  by_cases c5 : (l0_1.length : Int) = 0
  ·rw [if_pos c5] at H
   have c5b0 : ((l0_1.length : Int) == 0) = true := beq_iff_eq.mpr c5
   have c5b1 : ((l0_1.length : Int) != 0) = false := bne_eq_false_iff_eq.mpr c5
   clear c5
   obtain rfl := Option.some.inj H
   go_enter Tryd.func51, Tryd.ntmps51
   go_wp2_with (first | ((with_reducible refine gD 1 rfl ?_); refine bx w 1 #[.bool false, .slice A0_1 l0_1.length c0_1] 85 ?_; intro gb202 hg w6 hb BK202 GW202 GE202; clear HB; intro HB; clear hb hg; obtain ⟨hcz7_0, hcz7_1, hfz7_0, hfz7_1⟩ := cz2 BK202))
   go_ret
   exact ⟨by first | rfl | (simp [errW_none, errW_some] <;> rfl) | (simp [*, errW_none, errW_some] <;> rfl), (zb w)⟩
  ·rw [if_neg c5] at H
   have c5b0 : ((l0_1.length : Int) == 0) = false := beq_eq_false_iff_ne.mpr c5
   have c5b1 : ((l0_1.length : Int) != 0) = true := bne_iff_ne.mpr c5
   have c5b2 : ¬ (l0_1 = []) := fun h_ => c5 (by rw [h_]; rfl)
   obtain rfl := Option.some.inj H
   go_enter Tryd.func51, Tryd.ntmps51
   go_wp2_with (first | ((with_reducible refine gD 1 rfl ?_); refine bx w 1 #[.bool false, .slice A0_1 l0_1.length c0_1] 85 ?_; intro gb202 hg w8 hb BK202 GW202 GE202; clear HB; intro HB; clear hb hg; obtain ⟨hcz9_0, hcz9_1, hfz9_0, hfz9_1⟩ := cz2 BK202))
   go_ret
   exact ⟨by first | rfl | (simp [errW_none, errW_some] <;> rfl) | (simp [*, errW_none, errW_some] <;> rfl), (zb w)⟩

end Go.Proofs.YtaihfoihlbileaaDoor.R4
