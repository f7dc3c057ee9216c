-- Made by a program of this session out of the translation (wip/pp.py): functions, contracts.
import Derived.Test.YthgefhnolmloiaaGreatDoorP3x0
import Derived.Test.YthgefhnolmloiaaGreatDoorP3x2
namespace Go.Proofs.YthgefhnolmloiaaGreatDoor.P3
open Go.RowKit Go.Proofs.YthgefhnolmloiaaGreatDoorW.PrintWords Go.Proofs.YthgefhnolmloiaaGreatDoorW.PrintLast Go.Proofs.YthgefhnolmloiaaGreatDoorW.PrintMore
attribute [local go_sem] max2_int min2_int max_two min_two max_three min_three max_four min_four   -- for this text's walks alone
set_option linter.unusedVariables false
set_option linter.unusedSimpArgs false

/-! ### interchangeref1_TimesOf: function 97 -/
mutual
def interchangeref1_TimesOf.l0 : Nat → List Int → Int → Int → Bool → List Int → Bool → List Int → Option (Bool × List Int)
 | 0, _, _, _, _, _, _, _ => none
 | k + 1, x27, x28, x29, x177000, x177001, x182000, x182001 => if x29 < x28 then (if 0 ≤ x29 then (if x29 < (x27.length : Int) then (interchangeref1_TimesOf.l1 k x29 (rd x27 x29) x27 x28 x29 x177001 (x177001.length : Int) 0 x177000 x177001 x182000 x182001) else (none)) else (none)) else (interchangeref1_TimesOf.l2 k (wrap64 ((x182001.length : Int) - 1)) 0 x182000 x182001)
def interchangeref1_TimesOf.l1 : Nat → Int → Int → List Int → Int → Int → List Int → Int → Int → Bool → List Int → Bool → List Int → Option (Bool × List Int)
 | 0, _, _, _, _, _, _, _, _, _, _, _, _ => none
 | k + 1, x6, x7, x27, x28, x29, x35, x36, x37, x177000, x177001, x182000, x182001 => if x37 < x36 then (if 0 ≤ x37 then (if x37 < (x35.length : Int) then (if 0 ≤ (wrap64 (x6 + x37)) then (if (wrap64 (x6 + x37)) < (x182001.length : Int) then ((some (x182001.set ((wrap64 (x6 + x37)) : Int).toNat (wrap64 ((rd x182001 (wrap64 (x6 + x37))) + (wrap64 (x7 * (rd x35 x37))))) : List Int)).bind fun y185 => (if 0 ≤ (wrap64 ((wrap64 (x6 + x37)) + 1)) then (if (wrap64 ((wrap64 (x6 + x37)) + 1)) < (x182001.length : Int) then ((some (y185.set ((wrap64 ((wrap64 (x6 + x37)) + 1)) : Int).toNat (wrap64 ((rd y185 (wrap64 ((wrap64 (x6 + x37)) + 1))) + (wrap64 (Int.tdiv (rd y185 (wrap64 (x6 + x37))) 1000000)))) : List Int)).bind fun y188 => (interchangeref1_TimesOf.l1 k x6 x7 x27 x28 x29 x35 x36 (wrap64 (x37 + 1)) x177000 x177001 x182000 (y188.set ((wrap64 (x6 + x37)) : Int).toNat (Int.tmod (rd y188 (wrap64 (x6 + x37))) 1000000)))) else (none)) else (none))) else (none)) else (none)) else (none)) else (none)) else (interchangeref1_TimesOf.l0 k x27 x28 (wrap64 (x29 + 1)) x177000 x177001 x182000 x182001)
def interchangeref1_TimesOf.l2 : Nat → Int → Int → Bool → List Int → Option (Bool × List Int)
 | 0, _, _, _, _ => none
 | k + 1, x86, x87, x182000, x182001 => if x87 < x86 then (if 0 ≤ (wrap64 (x87 + 1)) then (if (wrap64 (x87 + 1)) < (x182001.length : Int) then (if 0 ≤ x87 then (if x87 < (x182001.length : Int) then ((some (x182001.set ((wrap64 (x87 + 1)) : Int).toNat (wrap64 ((rd x182001 (wrap64 (x87 + 1))) + (wrap64 (Int.tdiv (rd x182001 x87) 1000000)))) : List Int)).bind fun y193 => (interchangeref1_TimesOf.l2 k x86 (wrap64 (x87 + 1)) x182000 (y193.set (x87 : Int).toNat (Int.tmod (rd y193 x87) 1000000)))) else (none)) else (none)) else (none)) else (none)) else ((interchangeref1_trimmed.f k x182000 x182001).bind fun bt196 => (some (bt196.1, bt196.2)))
end
def interchangeref1_TimesOf.f (k : Nat) (a0_0 : Bool) (l0_1 : List Int) (a1_0 : Bool) (l1_1 : List Int) : Option (Bool × List Int) := if 0 ≤ (wrap64 ((wrap64 ((l0_1.length : Int) + (l1_1.length : Int))) + 1)) then (if (wrap64 ((wrap64 ((l0_1.length : Int) + (l1_1.length : Int))) + 1) : Int).toNat ≤ 35184372088832 then (interchangeref1_TimesOf.l0 k l0_1 (l0_1.length : Int) 0 a1_0 l1_1 (!(a0_0 == a1_0)) (List.replicate (wrap64 ((wrap64 ((l0_1.length : Int) + (l1_1.length : Int))) + 1) : Int).toNat 0)) else (none)) else (none)
theorem interchangeref1_TimesOf.mono_l : ∀ k, (∀ y0 y1 y2 y3 y4 y5 y6, LeO (interchangeref1_TimesOf.l0 k y0 y1 y2 y3 y4 y5 y6) (interchangeref1_TimesOf.l0 (k + 1) y0 y1 y2 y3 y4 y5 y6)) ∧ (∀ y0 y1 y2 y3 y4 y5 y6 y7 y8 y9 y10 y11, LeO (interchangeref1_TimesOf.l1 k y0 y1 y2 y3 y4 y5 y6 y7 y8 y9 y10 y11) (interchangeref1_TimesOf.l1 (k + 1) y0 y1 y2 y3 y4 y5 y6 y7 y8 y9 y10 y11)) ∧ (∀ y0 y1 y2 y3, LeO (interchangeref1_TimesOf.l2 k y0 y1 y2 y3) (interchangeref1_TimesOf.l2 (k + 1) y0 y1 y2 y3))
 | 0 => ⟨fun _ _ _ _ _ _ _ r h => by simp [interchangeref1_TimesOf.l0] at h, fun _ _ _ _ _ _ _ _ _ _ _ _ r h => by simp [interchangeref1_TimesOf.l1] at h, fun _ _ _ _ r h => by simp [interchangeref1_TimesOf.l2] at h⟩
 | k + 1 => by
  obtain ⟨ih0, ih1, ih2⟩ := interchangeref1_TimesOf.mono_l k
  refine ⟨?_, ?_, ?_⟩
  ·intro y0 y1 y2 y3 y4 y5 y6
   unfold interchangeref1_TimesOf.l0
   repeat' first | with_reducible first | exact ih0 _ _ _ _ _ _ _ | exact ih1 _ _ _ _ _ _ _ _ _ _ _ _ | exact ih2 _ _ _ _ | exact interchangeref1_trimmed.mono _ _ _ | exact lr _ | exact ln _ | refine li ?_ ?_ | refine lb ?_ fun _ => ?_ | exact ih0 _ _ _ _ _ _ _ | exact ih1 _ _ _ _ _ _ _ _ _ _ _ _ | exact ih2 _ _ _ _ | exact interchangeref1_trimmed.mono _ _ _ | exact ln _ | refine li ?_ ?_ | refine lb ?_ fun _ => ?_
  ·intro y0 y1 y2 y3 y4 y5 y6 y7 y8 y9 y10 y11
   unfold interchangeref1_TimesOf.l1
   repeat' first | with_reducible first | exact ih0 _ _ _ _ _ _ _ | exact ih1 _ _ _ _ _ _ _ _ _ _ _ _ | exact ih2 _ _ _ _ | exact interchangeref1_trimmed.mono _ _ _ | exact lr _ | exact ln _ | refine li ?_ ?_ | refine lb ?_ fun _ => ?_ | exact ih0 _ _ _ _ _ _ _ | exact ih1 _ _ _ _ _ _ _ _ _ _ _ _ | exact ih2 _ _ _ _ | exact interchangeref1_trimmed.mono _ _ _ | exact ln _ | refine li ?_ ?_ | refine lb ?_ fun _ => ?_
  ·intro y0 y1 y2 y3
   unfold interchangeref1_TimesOf.l2
   repeat' first | with_reducible first | exact ih0 _ _ _ _ _ _ _ | exact ih1 _ _ _ _ _ _ _ _ _ _ _ _ | exact ih2 _ _ _ _ | exact interchangeref1_trimmed.mono _ _ _ | exact lr _ | exact ln _ | refine li ?_ ?_ | refine lb ?_ fun _ => ?_ | exact ih0 _ _ _ _ _ _ _ | exact ih1 _ _ _ _ _ _ _ _ _ _ _ _ | exact ih2 _ _ _ _ | exact interchangeref1_trimmed.mono _ _ _ | exact ln _ | refine li ?_ ?_ | refine lb ?_ fun _ => ?_
theorem interchangeref1_TimesOf.mono : ∀ a0 a1 a2 a3 k, LeO (interchangeref1_TimesOf.f k a0 a1 a2 a3) (interchangeref1_TimesOf.f (k + 1) a0 a1 a2 a3) := by
 intro a0 a1 a2 a3 k
 obtain ⟨ih0, ih1, ih2⟩ := interchangeref1_TimesOf.mono_l k
 unfold interchangeref1_TimesOf.f
 repeat' first | with_reducible first | exact ih0 _ _ _ _ _ _ _ | exact ih1 _ _ _ _ _ _ _ _ _ _ _ _ | exact ih2 _ _ _ _ | exact interchangeref1_trimmed.mono _ _ _ | exact lr _ | exact ln _ | refine li ?_ ?_ | refine lb ?_ fun _ => ?_ | exact ih0 _ _ _ _ _ _ _ | exact ih1 _ _ _ _ _ _ _ _ _ _ _ _ | exact ih2 _ _ _ _ | exact interchangeref1_trimmed.mono _ _ _ | exact ln _ | refine li ?_ ?_ | refine lb ?_ fun _ => ?_
def interchangeref1_TimesOf.T1 : Bool × List (List Nat × List Nat) := (true, [([], []), ([0], [0]), ([], []), ([2], [2]), ([1, 3], [1, 3]), ([], []), ([5], [5]), ([6], [6]), ([], []), ([8], [8]), ([9], [9]), ([7, 10], [7, 10]), ([11], [11]), ([12, 12], [12]), ([4, 13], [4, 13]), ([], []), ([15, 14, 0, 1, 2, 3, 4, 5, 6, 7, 8, 9, 10, 11, 12, 13, 14, 15], [14, 15])])
def interchangeref1_TimesOf.B1 : List Nat := [0, 1, 0, 4, 15, 0, 32, 96, 0, 256, 768, 2016, 4064, 8160, 16383, 0, 65535]
theorem interchangeref1_TimesOf.tab1 : rtab .any (opsOf Tryz.f97 1) = interchangeref1_TimesOf.T1 := by kernel_rfl
theorem interchangeref1_TimesOf.bits1 : waitsOk interchangeref1_TimesOf.T1.2 interchangeref1_TimesOf.B1 = true := by kernel_rfl
def interchangeref1_TimesOf.T9 : Bool × List (List Nat × List Nat) := (true, [([], []), ([0], [0]), ([], []), ([], []), ([2, 3], [2, 3]), ([4], [4]), ([1, 5], [1, 5]), ([6], [6]), ([], []), ([8], [8]), ([], []), ([], []), ([10, 11], [10, 11]), ([9, 12], [9, 12]), ([13], [13]), ([14], [14]), ([7, 15], [7, 15]), ([1, 5, 0, 1, 2, 3, 4, 5, 6, 7, 8, 9, 10, 11, 12, 13, 14, 15, 16], [1, 5]), ([17, 16, 0, 1, 2, 3, 4, 5, 6, 7, 8, 9, 10, 11, 12, 13, 14, 15, 16], [16, 17])])
def interchangeref1_TimesOf.B9 : List Nat := [0, 1, 0, 0, 12, 28, 63, 127, 0, 256, 0, 0, 3072, 7936, 16128, 32512, 65535, 131071, 262143]
theorem interchangeref1_TimesOf.tab9 : rtab .any (opsOf Tryz.f97 9) = interchangeref1_TimesOf.T9 := by kernel_rfl
theorem interchangeref1_TimesOf.bits9 : waitsOk interchangeref1_TimesOf.T9.2 interchangeref1_TimesOf.B9 = true := by kernel_rfl
def interchangeref1_TimesOf.T16 : Bool × List (List Nat × List Nat) := (true, [([], []), ([0], [0]), ([], []), ([2], [2]), ([1, 3], [1, 3]), ([4], [4]), ([], []), ([6], [6]), ([], []), ([7, 8], [7, 8]), ([9], [9]), ([10], [10]), ([5, 11], [5, 11]), ([1, 3, 0, 1, 2, 3, 4, 5, 6, 7, 8, 9, 10, 11, 12], [1, 3]), ([13, 12, 0, 1, 2, 3, 4, 5, 6, 7, 8, 9, 10, 11, 12], [12, 13])])
def interchangeref1_TimesOf.B16 : List Nat := [0, 1, 0, 4, 15, 31, 0, 64, 0, 448, 960, 1984, 4095, 8191, 16383]
theorem interchangeref1_TimesOf.tab16 : rtab .any (opsOf Tryz.f97 16) = interchangeref1_TimesOf.T16 := by kernel_rfl
theorem interchangeref1_TimesOf.bits16 : waitsOk interchangeref1_TimesOf.T16.2 interchangeref1_TimesOf.B16 = true := by kernel_rfl
set_option maxHeartbeats 8000000 in
set_option maxRecDepth 100000 in
theorem interchangeref1_TimesOf.calls (k : Nat) (a0_0 : Bool) (A0_1 : Option Addr) (c0_1 : Nat) (l0_1 : List Int) (a1_0 : Bool) (A1_1 : Option Addr) (c1_1 : Nat) (l1_1 : List Int) (r1 : Bool) (r2 : List Int) (w : World) (hr0_1 : Kd.C (Kd.int .i64) w A0_1 l0_1.length l0_1) (hc0_1 : l0_1.length ≤ c0_1) (hr1_1 : Kd.C (Kd.int .i64) w A1_1 l1_1.length l1_1) (hc1_1 : l1_1.length ≤ c1_1) (h : interchangeref1_TimesOf.f k a0_0 l0_1 a1_0 l1_1 = some (r1, r2)) :
  Calls Tryz.prog 97 #[.agg #[.bool a0_0, .slice A0_1 l0_1.length c0_1], .agg #[.bool a1_0, .slice A1_1 l1_1.length c1_1]] w fun e w' => ∃ v1_ : Value, e = .returned (.agg #[.bool r1, v1_]) ∧ Kd.V (Kd.int .i64) 3 w' w.heap.size (fun k_ => (w.heap.size ≤ k_)) v1_ r2 ∧ Below w.heap.size w w' := by
 have hu84 := Tryz.underlying84
 have HR0_1 := Aside0.mk hr0_1
 have HC0_1 := Aside0.mk hc0_1
 clear hr0_1 hc0_1
 have HR1_1 := Aside0.mk hr1_1
 have HC1_1 := Aside0.mk hc1_1
 clear hr1_1 hc1_1
 have HB := Aside0.mk (Below.refl w.heap.size w)
 have H := h
 unfold interchangeref1_TimesOf.f at H
 clear h
 obtain ⟨ji3, hji3⟩ : ∃ j_ : Int, (wrap64 ((wrap64 ((l0_1.length : Int) + (l1_1.length : Int))) + 1)) = j_ := ⟨_, rfl⟩
 replace H : (if 0 ≤ (ji3) then (if (ji3 : Int).toNat ≤ 35184372088832 then (interchangeref1_TimesOf.l0 k l0_1 (l0_1.length : Int) 0 a1_0 l1_1 (!(a0_0 == a1_0)) (List.replicate (ji3 : Int).toNat 0)) else (none)) else (none)) = some (r1, r2) := by first | (rw [hji3] at H; exact H) | (simp only [hji3] at H ⊢; exact H)
 have hji3w : (IntKind.i64.wrap ((wrap64 ((l0_1.length : Int) + (l1_1.length : Int))) + 1)) = ji3 := (i64_w _).trans hji3
 by_cases c4 : 0 ≤ (ji3)
 ·rw [if_pos c4] at H
  have c4b0 := eq_true c4
  have c4b1 : decide (0 ≤ (ji3)) = true := decide_eq_true c4
  clear c4
  by_cases c5 : (ji3 : Int).toNat ≤ 35184372088832
  ·rw [if_pos c5] at H
   have c5b0 := eq_true c5
   have c5b1 : decide ((ji3 : Int).toNat ≤ 35184372088832) = true := decide_eq_true c5
   clear c5
   obtain ⟨y178, hy178⟩ : ∃ y_ : List Int, y_ = (List.replicate (ji3 : Int).toNat 0) := ⟨_, rfl⟩
   replace H : (interchangeref1_TimesOf.l0 k l0_1 (l0_1.length : Int) 0 a1_0 l1_1 (!(a0_0 == a1_0)) y178) = some (r1, r2) := by first | (rw [hy178]; with_reducible exact H) | (have H2_ := (Option.bind_some _ _).symm.trans H; rw [hy178]; with_reducible exact H2_) | (have H2_ := (Option.bind_some _ _).symm.trans H; with_reducible exact H2_) | with_reducible exact H | (rw [hy178]; exact H) | exact H
   have Ny178 := Aside0.mk hy178
   clear hy178
   have H' := Aside0.mk H
   clear H
   go_enter Tryz.func97, Tryz.ntmps97
   try go_wp2_with (first | ((with_reducible refine gD 2 rfl ?_); refine bx w 2 #[.bool a0_0, .slice A0_1 l0_1.length c0_1] 84 ?_; intro gb175 hg w6 hb BK175 GW175 GE175; clear HB; intro HB; clear hb hg) | ((with_reducible refine gD 3 rfl ?_); refine bx w 3 #[.bool a1_0, .slice A1_1 l1_1.length c1_1] 84 ?_; intro gb176 hg w7 hb BK176 GW176 GE176; clear HB; intro HB; have NB175_176 := nbl BK175 hg; have NB176_175 := nbr BK175 hg; replace BK175 := bb BK175 hb; clear hb hg) | ((with_reducible refine gD 4 rfl ?_); refine bx w 4 #[.bool false, .slice none 0 0] 84 ?_; intro gb177 hg w8 hb BK177 GW177 GE177; clear HB; intro HB; have NB175_177 := nbl BK175 hg; have NB177_175 := nbr BK175 hg; replace BK175 := bb BK175 hb; have NB176_177 := nbl BK176 hg; have NB177_176 := nbr BK176 hg; replace BK176 := bb BK176 hb; clear hb hg))
   have n0_ := Aside0.mk (blk_drew BK175.out)
   have n1_ := Aside0.mk (blk_drew BK176.out)
   have n2_ := Aside0.mk (blk_drew BK177.out)
   have n3_ := Aside0.mk (below_drew1 HB.out)
   clear BK175
   clear BK176
   clear BK177
   clear HB
   have BK175 := n0_
   have BK176 := n1_
   have BK177 := n2_
   have HB := n3_
   clear n0_ n1_ n2_ n3_
   refine start_ (n := 17) (S := fun w' => w'.cell? ⟨gb175, 0, none⟩ = some (.bool a0_0) ∧ w'.cell? ⟨gb175, 1, none⟩ = some (.slice A0_1 l0_1.length c0_1) ∧ w'.cell? ⟨gb176, 0, none⟩ = some (.bool a1_0) ∧ w'.cell? ⟨gb176, 1, none⟩ = some (.slice A1_1 l1_1.length c1_1)) (ds := []) (bm 17 0) (by kernel_rfl) rfl rfl ⟨(blk_cell BK175.out 0).trans rfl, (blk_cell BK175.out 1).trans rfl, (blk_cell BK176.out 0).trans rfl, (blk_cell BK176.out 1).trans rfl⟩ (fun hHeld => ?_); refine with_tabW interchangeref1_TimesOf.tab1 interchangeref1_TimesOf.bits1 (fun HT_ HW_ => ?_)
   generalize w8.drew = w9 at BK175 BK176 BK177 HB hHeld ⊢
   refine pu 0 11 (bm 17 1) HT_ ?_
   refine pu 2 13 (bm 17 5) HT_ ?_
   refine pu 5 16 (bm 17 37) HT_ ?_
   refine pu 8 19 (bm 17 293) HT_ ?_
   refine ta4 1 12 (bm 17 295) HT_ HW_ hHeld ?_
   refine ta4 3 14 (bm 17 303) HT_ HW_ hHeld ?_
   refine pu 4 15 (bm 17 319) HT_ ?_
   refine ta4 6 17 (bm 17 383) HT_ HW_ hHeld ?_
   refine pu 7 18 (bm 17 511) HT_ ?_
   refine ta4 9 20 (bm 17 1023) HT_ HW_ hHeld ?_
   refine pu 10 21 (bm 17 2047) HT_ ?_
   refine pu 11 22 (bm 17 4095) HT_ ?_
   refine pu 12 23 (bm 17 8191) HT_ ?_
   refine join_ (σ := Value × Nat) 1 (bm 17 65535) (fun s_ => [(24, s_.1), (5, .pointer (some ⟨s_.2, 0, none⟩)), (25, .agg #[.bool (!(a0_0 == a1_0)), s_.1])]) (fun s_ w' => (w'.cell? ⟨gb175, 0, none⟩ = some (.bool a0_0) ∧ w'.cell? ⟨gb175, 1, none⟩ = some (.slice A0_1 l0_1.length c0_1) ∧ w'.cell? ⟨gb176, 0, none⟩ = some (.bool a1_0) ∧ w'.cell? ⟨gb176, 1, none⟩ = some (.slice A1_1 l1_1.length c1_1)) ∧ (Kd.R (Kd.int .i64) 3 w' w.heap.size (fun k_ => (w.heap.size ≤ k_)) s_.1 y178) ∧ (w'.heap[gb175]? = some (.cells #[.bool a0_0, .slice A0_1 l0_1.length c0_1] 84 (0, 0))) ∧ (w'.heap[gb176]? = some (.cells #[.bool a1_0, .slice A1_1 l1_1.length c1_1] 84 (0, 0))) ∧ (w'.heap[gb177]? = some (.cells #[.bool false, .slice none 0 0] 84 (0, 0))) ∧ (w'.heap[s_.2]? = some (.cells #[.bool false, .slice none 0 0] 84 (0, 0))) ∧ (w.heap.size ≤ s_.2) ∧ (w.heap.size ≤ s_.2) ∧ (gb175 ≠ s_.2) ∧ (s_.2 ≠ gb175) ∧ (gb176 ≠ s_.2) ∧ (s_.2 ≠ gb176) ∧ (gb177 ≠ s_.2) ∧ (s_.2 ≠ gb177) ∧ (Below w.heap.size w w')) ?_ ?_
   rotate_left
   ·intro hCont
    refine two_ (i := 13) (j := 15) (Ni := some 24) (Nj := some 5) (bm 17 16383) (bm 17 40959) rfl rfl rfl rfl (two_of HT_.out (by kernel_rfl)) (by decide) (by decide) (fun K hK => ?_) (fun K hK => ?_)
    ·skip
     refine Kd.R_make_step (Kd.int .i64) _ 3 (by rfl) (N := 24) rfl 35 _ _ rfl ji3 rfl rfl Tryz.underlying35 (.int .i64 0) 8 info3 rfl (by decide) (by omega) 0 (ok := fun _ => True) (okp := fun _ => True) rfl (fun _ hk => hk) trivial (of_decide_eq_true (by assumption)) (Nat.le_trans (Nat.mul_le_mul_right _ (of_decide_eq_true (by assumption) : ji3.toNat ≤ 35184372088832)) (by omega)) (Below.refl _ _) (Nat.le_refl _) ?_
     intro v179 w10 ho11 hb hg_ hnew_
     clear hg_ hnew_
     (first | rw [← Ny178.out] at ho11 | (simp only [Int.reduceToNat] at ho11; rw [← Ny178.out] at ho11))
     have n0_ := Aside0.mk (Kd.R_lower (Kd.R_newM (M := fun k_ => (w.heap.size ≤ k_)) ho11 (below_size (zb w)) (fun k_ h_ => h_)) (below_size (zb w)))
     have n1_ := bb BK175 hb
     have n2_ := bb BK176 hb
     have n3_ := bb BK177 hb
     have n4_ := hs w hb
     clear BK175
     clear BK176
     clear BK177
     clear HB
     have HO180 := n0_
     have BK175 := n1_
     have BK176 := n2_
     have BK177 := n3_
     have HB := n4_
     clear n0_ n1_ n2_ n3_ n4_
     clear hb ho11
     obtain ⟨Ao12, co12, eo12⟩ := Kd.R_slice HO180.out
     (first | subst eo12 | (injection eo12 with f1_ f2_ f3_; have f4_ := f1_.symm; have f5_ := f3_.symm; clear f1_ f2_ f3_; subst f4_; subst f5_))
     refine hK.out _ _ ⟨(blk_cell BK175.out 0).trans rfl, (blk_cell BK175.out 1).trans rfl, (blk_cell BK176.out 0).trans rfl, (blk_cell BK176.out 1).trans rfl⟩ (fun hHeld => ?_)
     clear hK K
     refine norm_ (a' := ?_) ?_ ?_
     rotate_left
     ·show Act.put _ (some 24) _ = _
      simp only [sq, i64_w, i32_w]
      rfl
     refine pu 14 25 (bm 17 32767) HT_ ?_
     refine one_ (i := 15) (N := some 5) (bm 17 65535) rfl rfl (one_of HT_.out (by kernel_rfl)) (by decide) (fun K hK => ?_)
     refine box_step ?hg (N := 5) ?hd (cs := #[.bool false, .slice none 0 0]) (t := 84) ?hr ?_; (case hd => rfl); (case hg => rfl); (case hr => first | (go_simp; done) | (go_simp; rfl))
     intro gb181 hg w13 hbox hb
     have n0_ := rb HO180 hb
     have n1_ := bb BK175 hb
     have n2_ := bb BK176 hb
     have n3_ := bb BK177 hb
     have n4_ := hs w hb
     have n5_ := Aside0.mk (hbox)
     have n6_ := Aside0.mk ((by rw [hg]; exact (below_size (zb w)) : w.heap.size ≤ gb181))
     have n7_ := Aside0.mk ((by rw [hg]; exact (below_size (zb w)) : w.heap.size ≤ gb181))
     have n8_ := nbl BK175 hg
     have n9_ := nbr BK175 hg
     have n10_ := nbl BK176 hg
     have n11_ := nbr BK176 hg
     have n12_ := nbl BK177 hg
     have n13_ := nbr BK177 hg
     clear HO180
     clear BK175
     clear BK176
     clear BK177
     clear HB
     have HO180 := n0_
     have BK175 := n1_
     have BK176 := n2_
     have BK177 := n3_
     have HB := n4_
     have BK181 := n5_
     have GW181 := n6_
     have GE181 := n7_
     have NB175_181 := n8_
     have NB181_175 := n9_
     have NB176_181 := n10_
     have NB181_176 := n11_
     have NB177_181 := n12_
     have NB181_177 := n13_
     clear n0_ n1_ n2_ n3_ n4_ n5_ n6_ n7_ n8_ n9_ n10_ n11_ n12_ n13_
     clear hb hg
     refine hK.out _ _ ⟨(blk_cell BK175.out 0).trans rfl, (blk_cell BK175.out 1).trans rfl, (blk_cell BK176.out 0).trans rfl, (blk_cell BK176.out 1).trans rfl⟩ (fun hHeld => ?_)
     clear hK K
     refine norm_ (a' := ?_) ?_ ?_
     rotate_left
     ·show Act.put _ (some 5) _ = _
      simp only [sq, i64_w, i32_w]
      rfl
     exact norm_ (by simp only [putAll, Act.put, List.setIfInBounds_toArray, List.set_cons_zero, List.set_cons_succ]) (hCont (.slice Ao12 y178.length co12, gb181) _ ⟨hHeld, (by (with_reducible repeat (first | apply Kd.R_alloc | apply Kd.R_drewN | apply Kd.R_drew)); exact Kd.R_mono HO180.out (fun _ hk => hk.1)), (zk BK175), (zk BK176), (zk BK177), (zk BK181), GW181.out, GE181.out, NB175_181.out, NB181_175.out, NB176_181.out, NB181_176.out, NB177_181.out, NB181_177.out, (zb w)⟩)
    ·skip
     refine box_step ?hg (N := 5) ?hd (cs := #[.bool false, .slice none 0 0]) (t := 84) ?hr ?_; (case hd => rfl); (case hg => rfl); (case hr => first | (go_simp; done) | (go_simp; rfl))
     intro gb181 hg w10 hbox hb
     have n0_ := bb BK175 hb
     have n1_ := bb BK176 hb
     have n2_ := bb BK177 hb
     have n3_ := hs w hb
     have n4_ := Aside0.mk (hbox)
     have n5_ := Aside0.mk ((by rw [hg]; exact (below_size (zb w)) : w.heap.size ≤ gb181))
     have n6_ := Aside0.mk ((by rw [hg]; exact (below_size (zb w)) : w.heap.size ≤ gb181))
     have n7_ := nbl BK175 hg
     have n8_ := nbr BK175 hg
     have n9_ := nbl BK176 hg
     have n10_ := nbr BK176 hg
     have n11_ := nbl BK177 hg
     have n12_ := nbr BK177 hg
     clear BK175
     clear BK176
     clear BK177
     clear HB
     have BK175 := n0_
     have BK176 := n1_
     have BK177 := n2_
     have HB := n3_
     have BK181 := n4_
     have GW181 := n5_
     have GE181 := n6_
     have NB175_181 := n7_
     have NB181_175 := n8_
     have NB176_181 := n9_
     have NB181_176 := n10_
     have NB177_181 := n11_
     have NB181_177 := n12_
     clear n0_ n1_ n2_ n3_ n4_ n5_ n6_ n7_ n8_ n9_ n10_ n11_ n12_
     clear hb hg
     refine hK.out _ _ ⟨(blk_cell BK175.out 0).trans rfl, (blk_cell BK175.out 1).trans rfl, (blk_cell BK176.out 0).trans rfl, (blk_cell BK176.out 1).trans rfl⟩ (fun hHeld => ?_)
     clear hK K
     refine norm_ (a' := ?_) ?_ ?_
     rotate_left
     ·show Act.put _ (some 5) _ = _
      simp only [sq, i64_w, i32_w]
      rfl
     refine one_ (i := 13) (N := some 24) (bm 17 49151) rfl rfl (one_of HT_.out (by kernel_rfl)) (by decide) (fun K hK => ?_)
     refine Kd.R_make_step (Kd.int .i64) _ 3 (by rfl) (N := 24) rfl 35 _ _ rfl ji3 rfl rfl Tryz.underlying35 (.int .i64 0) 8 info3 rfl (by decide) (by omega) 0 (ok := fun _ => True) (okp := fun _ => True) rfl (fun _ hk => hk) trivial (of_decide_eq_true (by assumption)) (Nat.le_trans (Nat.mul_le_mul_right _ (of_decide_eq_true (by assumption) : ji3.toNat ≤ 35184372088832)) (by omega)) (Below.refl _ _) (Nat.le_refl _) ?_
     intro v179 w11 ho12 hb hg_ hnew_
     clear hg_ hnew_
     (first | rw [← Ny178.out] at ho12 | (simp only [Int.reduceToNat] at ho12; rw [← Ny178.out] at ho12))
     have n0_ := Aside0.mk (Kd.R_lower (Kd.R_newM (M := fun k_ => (w.heap.size ≤ k_)) ho12 (below_size (zb w)) (fun k_ h_ => h_)) (below_size (zb w)))
     have n1_ := bb BK175 hb
     have n2_ := bb BK176 hb
     have n3_ := bb BK177 hb
     have n4_ := bb BK181 hb
     have n5_ := hs w hb
     clear BK175
     clear BK176
     clear BK177
     clear BK181
     clear HB
     have HO180 := n0_
     have BK175 := n1_
     have BK176 := n2_
     have BK177 := n3_
     have BK181 := n4_
     have HB := n5_
     clear n0_ n1_ n2_ n3_ n4_ n5_
     clear hb ho12
     obtain ⟨Ao13, co13, eo13⟩ := Kd.R_slice HO180.out
     (first | subst eo13 | (injection eo13 with f1_ f2_ f3_; have f4_ := f1_.symm; have f5_ := f3_.symm; clear f1_ f2_ f3_; subst f4_; subst f5_))
     refine hK.out _ _ ⟨(blk_cell BK175.out 0).trans rfl, (blk_cell BK175.out 1).trans rfl, (blk_cell BK176.out 0).trans rfl, (blk_cell BK176.out 1).trans rfl⟩ (fun hHeld => ?_)
     clear hK K
     refine norm_ (a' := ?_) ?_ ?_
     rotate_left
     ·show Act.put _ (some 24) _ = _
      simp only [sq, i64_w, i32_w]
      rfl
     refine pu 14 25 (bm 17 65535) HT_ ?_
     exact norm_ (by simp only [putAll, Act.put, List.setIfInBounds_toArray, List.set_cons_zero, List.set_cons_succ]) (hCont (.slice Ao13 y178.length co13, gb181) _ ⟨hHeld, (by (with_reducible repeat (first | apply Kd.R_alloc | apply Kd.R_drewN | apply Kd.R_drew)); exact Kd.R_mono HO180.out (fun _ hk => hk.1)), (zk BK175), (zk BK176), (zk BK177), (zk BK181), GW181.out, GE181.out, NB175_181.out, NB181_175.out, NB176_181.out, NB181_176.out, NB177_181.out, NB181_177.out, (zb w)⟩)
   rintro ⟨v179, gb181⟩ w14 ⟨hS_, h0_, h1_, h2_, h3_, h4_, h5_, h6_, h7_, h8_, h9_, h10_, h11_, h12_, h13_⟩
   have n0_ : Aside0 (Kd.R (Kd.int .i64) 3 w14 w.heap.size (fun k_ => (w.heap.size ≤ k_)) v179 y178) := ⟨h0_⟩
   have n1_ : Aside0 (w14.heap[gb175]? = some (.cells #[.bool a0_0, .slice A0_1 l0_1.length c0_1] 84 (0, 0))) := ⟨h1_⟩
   have n2_ : Aside0 (w14.heap[gb176]? = some (.cells #[.bool a1_0, .slice A1_1 l1_1.length c1_1] 84 (0, 0))) := ⟨h2_⟩
   have n3_ : Aside0 (w14.heap[gb177]? = some (.cells #[.bool false, .slice none 0 0] 84 (0, 0))) := ⟨h3_⟩
   have n4_ : Aside0 (w14.heap[gb181]? = some (.cells #[.bool false, .slice none 0 0] 84 (0, 0))) := ⟨h4_⟩
   have n5_ : Aside0 (w.heap.size ≤ gb181) := ⟨h5_⟩
   have n6_ : Aside0 (w.heap.size ≤ gb181) := ⟨h6_⟩
   have n7_ : Aside0 (gb175 ≠ gb181) := ⟨h7_⟩
   have n8_ : Aside0 (gb181 ≠ gb175) := ⟨h8_⟩
   have n9_ : Aside0 (gb176 ≠ gb181) := ⟨h9_⟩
   have n10_ : Aside0 (gb181 ≠ gb176) := ⟨h10_⟩
   have n11_ : Aside0 (gb177 ≠ gb181) := ⟨h11_⟩
   have n12_ : Aside0 (gb181 ≠ gb177) := ⟨h12_⟩
   have n13_ : Aside0 (Below w.heap.size w w14) := ⟨h13_⟩
   clear BK175
   clear BK176
   clear BK177
   clear HB
   clear h0_ h1_ h2_ h3_ h4_ h5_ h6_ h7_ h8_ h9_ h10_ h11_ h12_ h13_
   have HO180 := n0_
   have BK175 := n1_
   have BK176 := n2_
   have BK177 := n3_
   have BK181 := n4_
   have GW181 := n5_
   have GE181 := n6_
   have NB175_181 := n7_
   have NB181_175 := n8_
   have NB176_181 := n9_
   have NB181_176 := n10_
   have NB177_181 := n11_
   have NB181_177 := n12_
   have HB := n13_
   clear n0_ n1_ n2_ n3_ n4_ n5_ n6_ n7_ n8_ n9_ n10_ n11_ n12_ n13_
   have hHeld : w14.cell? ⟨gb175, 0, none⟩ = some (.bool a0_0) ∧ w14.cell? ⟨gb175, 1, none⟩ = some (.slice A0_1 l0_1.length c0_1) ∧ w14.cell? ⟨gb176, 0, none⟩ = some (.bool a1_0) ∧ w14.cell? ⟨gb176, 1, none⟩ = some (.slice A1_1 l1_1.length c1_1) := hS_
   obtain ⟨Ao15, co15, eo15⟩ := Kd.R_slice HO180.out
   (first | subst eo15 | (injection eo15 with f1_ f2_ f3_; have f4_ := f1_.symm; have f5_ := f3_.symm; clear f1_ f2_ f3_; subst f4_; subst f5_))
   refine norm_ (a' := ?_) ?_ ?_
   rotate_left
   ·simp only [putAll, Act.put, List.setIfInBounds_toArray, List.set_cons_zero, List.set_cons_succ]
    rfl
   refine one_ (i := 16) (N := none) (bm 17 131071) rfl rfl (one_of HT_.out (by kernel_rfl)) (by decide) (fun K hK => ?_)
   have hs16 : w14.cell? ⟨gb181, 0, none⟩ = some (.bool false) := (blk_cell BK181.out 0).trans rfl
   have hfs16 := blk_frozen BK181.out 0
   have hns16_0 := NB175_181.out
   have hns16_1 := NB176_181.out
   have hns16_2 := NB177_181.out
   have hms16_0 := NB181_175.out
   have hms16_1 := NB181_176.out
   have hms16_2 := NB181_177.out
   have hs17 : w14.cell? ⟨gb181, 1, none⟩ = some (.slice none 0 0) := (blk_cell BK181.out 1).trans rfl
   have hfs17 := blk_frozen BK181.out 1
   have hns17_0 := NB175_181.out
   have hns17_1 := NB176_181.out
   have hns17_2 := NB177_181.out
   have hms17_0 := NB181_175.out
   have hms17_1 := NB181_176.out
   have hms17_2 := NB181_177.out
   refine skip_ (w1 := ?_) (by rfl) rfl ?_ ?_
   rotate_left
   ·go_simp
    rfl
   refine hK.out _ _ ⟨((cell_far (p := ⟨gb181, _, none⟩) NB175_181.out _).trans (((cell_far (p := ⟨gb181, _, none⟩) NB175_181.out _).trans (hHeld.1)))), ((cell_far (p := ⟨gb181, _, none⟩) NB175_181.out _).trans (((cell_far (p := ⟨gb181, _, none⟩) NB175_181.out _).trans (hHeld.2.1)))), ((cell_far (p := ⟨gb181, _, none⟩) NB176_181.out _).trans (((cell_far (p := ⟨gb181, _, none⟩) NB176_181.out _).trans (hHeld.2.2.1)))), ((cell_far (p := ⟨gb181, _, none⟩) NB176_181.out _).trans (((cell_far (p := ⟨gb181, _, none⟩) NB176_181.out _).trans (hHeld.2.2.2))))⟩ (fun hHeld => ?_)
   clear hK K
   refine done_ (done_of HT_.out (by kernel_rfl)) ?_
   have hnb18 := NB175_176.out
   have hnc18 := NB176_175.out
   have hnb19 := NB175_177.out
   have hnc19 := NB177_175.out
   have hnb20 := NB175_181.out
   have hnc20 := NB181_175.out
   obtain ⟨hcz21_0, hcz21_1, hfz21_0, hfz21_1⟩ := cz2 BK175
   try go_wp2
   try simp only [sq]
   go_loopg [29] k (fun kq v29 w' => ∃ (x29_1 : Int) (x182001_1 : List Int) (u182001 : Value), v29 = .int .i64 x29_1 ∧ Aside0 (interchangeref1_TimesOf.l0 kq l0_1 (l0_1.length : Int) x29_1 a1_0 l1_1 (!(a0_0 == a1_0)) x182001_1 = some (r1, r2)) ∧ Aside0 (kq ≤ k) ∧ Aside0 (Kd.R (Kd.int .i64) 3 w' w.heap.size (fun k_ => (w.heap.size ≤ k_)) u182001 x182001_1) ∧ Aside0 (w'.heap[gb175]? = some (.cells #[.bool a0_0, (.slice A0_1 l0_1.length c0_1)] 84 (0, 0))) ∧ Aside0 (w'.heap[gb176]? = some (.cells #[.bool a1_0, (.slice A1_1 l1_1.length c1_1)] 84 (0, 0))) ∧ Aside0 (w'.heap[gb177]? = some (.cells #[.bool false, (.slice none 0 0)] 84 (0, 0))) ∧ Aside0 (w'.heap[gb181]? = some (.cells #[.bool (!(a0_0 == a1_0)), u182001] 84 (0, 0))) ∧ Aside0 (Below w.heap.size w w'))
   case atStart => exact ⟨(0), (y178), (.slice Ao15 y178.length co15), ar, H', ⟨Nat.le_refl _⟩, ⟨by (with_reducible repeat (first | apply Kd.R_alloc | apply Kd.R_drewN | apply Kd.R_drew)); exact Kd.R_mono (Kd.R_far (p := ⟨gb181, 1, none⟩) (Kd.R_far (p := ⟨gb181, 0, none⟩) (Kd.R_types HO180.out BK181.out (by decide)) (fun _ hk => hk.2) (.bool (!(a0_0 == a1_0)))) (fun _ hk => hk.2) (.slice Ao15 y178.length co15)) (fun _ hk => hk.1)⟩, ⟨by (with_reducible repeat (first | refine blk_drewN ?_ _ | refine blk_drew ?_ | refine blk_alloc ?_ _)); refine blk_far ?_ NB175_181.out _; (with_reducible repeat (first | refine blk_drewN ?_ _ | refine blk_drew ?_ | refine blk_alloc ?_ _)); refine blk_far ?_ NB175_181.out _; exact zk BK175⟩, ⟨by (with_reducible repeat (first | refine blk_drewN ?_ _ | refine blk_drew ?_ | refine blk_alloc ?_ _)); refine blk_far ?_ NB176_181.out _; (with_reducible repeat (first | refine blk_drewN ?_ _ | refine blk_drew ?_ | refine blk_alloc ?_ _)); refine blk_far ?_ NB176_181.out _; exact zk BK176⟩, ⟨by (with_reducible repeat (first | refine blk_drewN ?_ _ | refine blk_drew ?_ | refine blk_alloc ?_ _)); refine blk_far ?_ NB177_181.out _; (with_reducible repeat (first | refine blk_drewN ?_ _ | refine blk_drew ?_ | refine blk_alloc ?_ _)); refine blk_far ?_ NB177_181.out _; exact zk BK177⟩, ⟨by (with_reducible repeat (first | refine blk_drewN ?_ _ | refine blk_drew ?_ | refine blk_alloc ?_ _)); refine blk_put (cs := #[.bool (!(a0_0 == a1_0)), .slice none 0 0]) ?_ 1 _ rfl; (with_reducible repeat (first | refine blk_drewN ?_ _ | refine blk_drew ?_ | refine blk_alloc ?_ _)); refine blk_put (cs := #[.bool false, .slice none 0 0]) ?_ 0 _ rfl; exact zk BK181⟩, ⟨(zb w)⟩⟩
   case round =>
    clear H'
    try clear c1
    try clear c2
    try clear p2
    try clear c4
    try clear c4b0
    try clear c4b1
    try clear c5
    try clear c5b0
    try clear c5b1
    try clear p6
    try clear c9
    try clear c18
    try clear c19
    try clear c20
    try clear hcz21_0 hcz21_1 hfz21_0 hfz21_1
    obtain ⟨x29_1, x182001_1, u182001, rfl, HA, HK1, HO_182001, BK175, BK176, BK177, BK181, HB⟩ := hrel
    cases gk with
    | zero => exact absurd HA.out (by simp [interchangeref1_TimesOf.l0])
    | succ k1 =>
     have H := HA.out
     clear HA
     simp only [interchangeref1_TimesOf.l0] at H
     by_cases c22 : x29_1 < (l0_1.length : Int)
     ·rw [if_pos c22] at H
      have c22b0 : decide (x29_1 < (l0_1.length : Int)) = true := decide_eq_true c22
      clear c22
      by_cases c23 : 0 ≤ x29_1
      ·rw [if_pos c23] at H
       have c23b0 : decide (0 ≤ x29_1) = true := decide_eq_true c23
       clear c23
       by_cases c24 : x29_1 < (l0_1.length : Int)
       ·rw [if_pos c24] at H
        have c24b0 : decide (x29_1 < (l0_1.length : Int)) = true := decide_eq_true c24
        clear c24
        have H' := Aside0.mk H
        clear H
        have p182 : 0 ≤ (x29_1 : Int) := of_decide_eq_true (by assumption)
        have q182 : x29_1 < (l0_1.length : Int) := of_decide_eq_true (by assumption)
        obtain ⟨ad182, e182, hx182_0⟩ := Kd.at_int HR0_1.out x29_1 p182 q182
        cases e182
        replace hx182_0 := hz HB hx182_0
        replace p182 := eq_true p182
        replace q182 := eq_true q182
        have hnb25 := NB176_175.out
        have hnc25 := NB175_176.out
        have hnb26 := NB176_177.out
        have hnc26 := NB177_176.out
        have hnb27 := NB176_181.out
        have hnc27 := NB181_176.out
        obtain ⟨hcz28_0, hcz28_1, hfz28_0, hfz28_1⟩ := cz2 BK176
        go_wp2
        try simp only [sq]
        go_loopg [37] k1 (fun kq v37 w' => ∃ (x37_2 : Int) (x182001_2 : List Int) (u182001 : Value), v37 = .int .i64 x37_2 ∧ Aside0 (interchangeref1_TimesOf.l1 kq x29_1 (rd l0_1 x29_1) l0_1 (l0_1.length : Int) x29_1 l1_1 (l1_1.length : Int) x37_2 a1_0 l1_1 (!(a0_0 == a1_0)) x182001_2 = some (r1, r2)) ∧ Aside0 (kq ≤ k1) ∧ Aside0 (Kd.R (Kd.int .i64) 3 w' w.heap.size (fun k_ => (w.heap.size ≤ k_)) u182001 x182001_2) ∧ Aside0 (w'.heap[gb175]? = some (.cells #[.bool a0_0, (.slice (some ad182) l0_1.length c0_1)] 84 (0, 0))) ∧ Aside0 (w'.heap[gb176]? = some (.cells #[.bool a1_0, (.slice A1_1 l1_1.length c1_1)] 84 (0, 0))) ∧ Aside0 (w'.heap[gb177]? = some (.cells #[.bool false, (.slice none 0 0)] 84 (0, 0))) ∧ Aside0 (w'.heap[gb181]? = some (.cells #[.bool (!(a0_0 == a1_0)), u182001] 84 (0, 0))) ∧ Aside0 (Below w.heap.size w w'))
        case atStart => exact ⟨(0), (x182001_1), (u182001), ar, H', ⟨Nat.le_refl _⟩, ⟨zo HO_182001⟩, ⟨(zk BK175)⟩, ⟨(zk BK176)⟩, ⟨(zk BK177)⟩, ⟨(zk BK181)⟩, ⟨(zb w)⟩⟩
        case round =>
         clear H'
         try clear c1
         try clear p1
         try clear q1
         try clear hx1
         try clear c2
         try clear p2
         try clear c4
         try clear c4b0
         try clear c4b1
         try clear c5
         try clear c5b0
         try clear c5b1
         try clear p6
         try clear c9
         try clear c18
         try clear p18
         try clear q18
         try clear hx18
         try clear c19
         try clear c20
         try clear c22
         try clear c22b0
         try clear c23
         try clear c23b0
         try clear c24
         try clear c24b0
         try clear c25
         try clear c26
         try clear c27
         try clear hcz21_0 hcz21_1
         try clear hcz28_0 hcz28_1
         try clear hfz21_0 hfz21_1
         try clear hfz28_0 hfz28_1
         try clear hx182_0
         try clear p182
         try clear p2
         try clear p6
         try clear q182
         obtain ⟨x37_2, x182001_2, u182001, rfl, HA, HK2, HO_182001, BK175, BK176, BK177, BK181, HB⟩ := hrel
         cases gk with
         | zero => exact absurd HA.out (by simp [interchangeref1_TimesOf.l1])
         | succ k2 =>
          have H := HA.out
          clear HA
          simp only [interchangeref1_TimesOf.l1] at H
          by_cases c29 : x37_2 < (l1_1.length : Int)
          ·rw [if_pos c29] at H
           have c29b0 : decide (x37_2 < (l1_1.length : Int)) = true := decide_eq_true c29
           clear c29
           by_cases c30 : 0 ≤ x37_2
           ·rw [if_pos c30] at H
            have c30b0 : decide (0 ≤ x37_2) = true := decide_eq_true c30
            clear c30
            by_cases c31 : x37_2 < (l1_1.length : Int)
            ·rw [if_pos c31] at H
             have c31b0 : decide (x37_2 < (l1_1.length : Int)) = true := decide_eq_true c31
             clear c31
             obtain ⟨ji32, hji32⟩ : ∃ j_ : Int, (wrap64 (x29_1 + x37_2)) = j_ := ⟨_, rfl⟩
             replace H : (if 0 ≤ (ji32) then (if (ji32) < (x182001_2.length : Int) then ((some (x182001_2.set ((ji32) : Int).toNat (wrap64 ((rd x182001_2 (ji32)) + (wrap64 ((rd l0_1 x29_1) * (rd l1_1 x37_2))))) : List Int)).bind fun y185 => (if 0 ≤ (wrap64 ((ji32) + 1)) then (if (wrap64 ((ji32) + 1)) < (x182001_2.length : Int) then ((some (y185.set ((wrap64 ((ji32) + 1)) : Int).toNat (wrap64 ((rd y185 (wrap64 ((ji32) + 1))) + (wrap64 (Int.tdiv (rd y185 (ji32)) 1000000)))) : List Int)).bind fun y188 => (interchangeref1_TimesOf.l1 k2 x29_1 (rd l0_1 x29_1) l0_1 (l0_1.length : Int) x29_1 l1_1 (l1_1.length : Int) (wrap64 (x37_2 + 1)) a1_0 l1_1 (!(a0_0 == a1_0)) (y188.set ((ji32) : Int).toNat (Int.tmod (rd y188 (ji32)) 1000000)))) else (none)) else (none))) else (none)) else (none)) = some (r1, r2) := by first | (rw [hji32] at H; exact H) | (simp only [hji32] at H ⊢; exact H)
             have hji32w : (IntKind.i64.wrap (x29_1 + x37_2)) = ji32 := (i64_w _).trans hji32
             by_cases c33 : 0 ≤ (ji32)
             ·rw [if_pos c33] at H
              have c33b0 : decide (0 ≤ (ji32)) = true := decide_eq_true c33
              clear c33
              by_cases c34 : (ji32) < (x182001_2.length : Int)
              ·rw [if_pos c34] at H
               have c34b0 : decide ((ji32) < (x182001_2.length : Int)) = true := decide_eq_true c34
               clear c34
               obtain ⟨y185, hy185⟩ : ∃ y_ : List Int, y_ = (x182001_2.set ((ji32) : Int).toNat (wrap64 ((rd x182001_2 (ji32)) + (wrap64 ((rd l0_1 x29_1) * (rd l1_1 x37_2)))))) := ⟨_, rfl⟩
               replace H : (if 0 ≤ (wrap64 ((ji32) + 1)) then (if (wrap64 ((ji32) + 1)) < (x182001_2.length : Int) then ((some (y185.set ((wrap64 ((ji32) + 1)) : Int).toNat (wrap64 ((rd y185 (wrap64 ((ji32) + 1))) + (wrap64 (Int.tdiv (rd y185 (ji32)) 1000000)))) : List Int)).bind fun y188 => (interchangeref1_TimesOf.l1 k2 x29_1 (rd l0_1 x29_1) l0_1 (l0_1.length : Int) x29_1 l1_1 (l1_1.length : Int) (wrap64 (x37_2 + 1)) a1_0 l1_1 (!(a0_0 == a1_0)) (y188.set ((ji32) : Int).toNat (Int.tmod (rd y188 (ji32)) 1000000)))) else (none)) else (none)) = some (r1, r2) := by first | (rw [hy185]; with_reducible exact H) | (have H2_ := (Option.bind_some _ _).symm.trans H; rw [hy185]; with_reducible exact H2_) | (have H2_ := (Option.bind_some _ _).symm.trans H; with_reducible exact H2_) | with_reducible exact H | (rw [hy185]; exact H) | exact H
               have Ny185 := Aside0.mk hy185
               clear hy185
               obtain ⟨ji36, hji36⟩ : ∃ j_ : Int, (wrap64 ((ji32) + 1)) = j_ := ⟨_, rfl⟩
               replace H : (if 0 ≤ (ji36) then (if (ji36) < (x182001_2.length : Int) then ((some (y185.set ((ji36) : Int).toNat (wrap64 ((rd y185 (ji36)) + (wrap64 (Int.tdiv (rd y185 (ji32)) 1000000)))) : List Int)).bind fun y188 => (interchangeref1_TimesOf.l1 k2 x29_1 (rd l0_1 x29_1) l0_1 (l0_1.length : Int) x29_1 l1_1 (l1_1.length : Int) (wrap64 (x37_2 + 1)) a1_0 l1_1 (!(a0_0 == a1_0)) (y188.set ((ji32) : Int).toNat (Int.tmod (rd y188 (ji32)) 1000000)))) else (none)) else (none)) = some (r1, r2) := by first | (rw [hji36] at H; exact H) | (simp only [hji36] at H ⊢; exact H)
               have hji36w : (IntKind.i64.wrap ((ji32) + 1)) = ji36 := (i64_w _).trans hji36
               by_cases c37 : 0 ≤ (ji36)
               ·rw [if_pos c37] at H
                have c37b0 : decide (0 ≤ (ji36)) = true := decide_eq_true c37
                clear c37
                by_cases c38 : (ji36) < (x182001_2.length : Int)
                ·rw [if_pos c38] at H
                 have c38b0 : decide ((ji36) < (x182001_2.length : Int)) = true := decide_eq_true c38
                 clear c38
                 obtain ⟨y188, hy188⟩ : ∃ y_ : List Int, y_ = (y185.set ((ji36) : Int).toNat (wrap64 ((rd y185 (ji36)) + (wrap64 (Int.tdiv (rd y185 (ji32)) 1000000))))) := ⟨_, rfl⟩
                 replace H : (interchangeref1_TimesOf.l1 k2 x29_1 (rd l0_1 x29_1) l0_1 (l0_1.length : Int) x29_1 l1_1 (l1_1.length : Int) (wrap64 (x37_2 + 1)) a1_0 l1_1 (!(a0_0 == a1_0)) (y188.set ((ji32) : Int).toNat (Int.tmod (rd y188 (ji32)) 1000000))) = some (r1, r2) := by first | (rw [hy188]; with_reducible exact H) | (have H2_ := (Option.bind_some _ _).symm.trans H; rw [hy188]; with_reducible exact H2_) | (have H2_ := (Option.bind_some _ _).symm.trans H; with_reducible exact H2_) | with_reducible exact H | (rw [hy188]; exact H) | exact H
                 have Ny188 := Aside0.mk hy188
                 clear hy188
                 obtain ⟨y190, hy190⟩ : ∃ y_ : List Int, y_ = (y188.set ((ji32) : Int).toNat (Int.tmod (rd y188 (ji32)) 1000000)) := ⟨_, rfl⟩
                 replace H : (interchangeref1_TimesOf.l1 k2 x29_1 (rd l0_1 x29_1) l0_1 (l0_1.length : Int) x29_1 l1_1 (l1_1.length : Int) (wrap64 (x37_2 + 1)) a1_0 l1_1 (!(a0_0 == a1_0)) y190) = some (r1, r2) := by first | (rw [hy190]; with_reducible exact H) | (have H2_ := (Option.bind_some _ _).symm.trans H; rw [hy190]; with_reducible exact H2_) | (have H2_ := (Option.bind_some _ _).symm.trans H; with_reducible exact H2_) | with_reducible exact H | (rw [hy190]; exact H) | exact H
                 have Ny190 := Aside0.mk hy190
                 clear hy190
                 have H' := Aside0.mk H
                 clear H
                 have p183 : 0 ≤ (x37_2 : Int) := of_decide_eq_true (by assumption)
                 have q183 : x37_2 < (l1_1.length : Int) := of_decide_eq_true (by assumption)
                 obtain ⟨ad183, e183, hx183_0⟩ := Kd.at_int HR1_1.out x37_2 p183 q183
                 cases e183
                 replace hx183_0 := hz HB hx183_0
                 replace p183 := eq_true p183
                 replace q183 := eq_true q183
                 have hnb41 := NB181_175.out
                 have hnc41 := NB175_181.out
                 have hnb42 := NB181_176.out
                 have hnc42 := NB176_181.out
                 have hnb43 := NB181_177.out
                 have hnc43 := NB177_181.out
                 obtain ⟨hcz44_0, hcz44_1, hfz44_0, hfz44_1⟩ := cz2 BK181
                 obtain ⟨Ao45, co45, eo45⟩ := Kd.R_slice HO_182001.out
                 subst eo45
                 have p184 : 0 ≤ ((ji32) : Int) := of_decide_eq_true (by assumption)
                 have q184 : (ji32) < (x182001_2.length : Int) := of_decide_eq_true (by assumption)
                 obtain ⟨ad184, e184, hx184_0⟩ := Kd.at_int (Kd.R_reads' HO_182001.out).2.2 (ji32) p184 q184
                 cases e184
                 replace p184 := eq_true p184
                 replace q184 := eq_true q184
                 have p35 : 0 ≤ ((ji32) : Int) := of_decide_eq_true (by assumption)
                 have q35 : ((ji32) : Int) < ((x182001_2.length : Int) : Int) := of_decide_eq_true (by assumption)
                 obtain ⟨go35, co35, eo35, gb35, gl35, cl35, HG35⟩ := Kd.R_form HO_182001.out (by omega)
                 (first | cases eo35 | (injection eo35 with ea_ en_ ec_; (first | subst ea_ | (injection ea_ with ea_; subst ea_)); subst ec_; clear en_))
                 have GB35 := Aside0.mk gb35
                 have GG35 := Aside0.mk HG35
                 clear gb35 gl35 HG35
                 (first | simp only [add_plain] at hx184_0 | skip)
                 obtain ⟨hx35_0, hf35_0⟩ := Kd.R_celln 0 HO_182001.out ((ji32) : Int) p35 q35
                 replace p35 := eq_true p35
                 replace q35 := eq_true q35
                 have HP46 := Kd.R_putg HO_182001.out ((ji32) : Int) (wrap64 ((rd x182001_2 (ji32)) + (wrap64 ((rd l0_1 x29_1) * (rd l1_1 x37_2)))))
                 try go_wp2_with (first | ((with_reducible refine gate_store (t := 3) (p := 53) rfl ?_); refine store_event (t := 3) (p := 53) (v := ?vo_w47) (w1 := (wr.setCell ⟨go35, ((ji32) : Int).toNat, none⟩ (.int .i64 (wrap64 ((rd x182001_2 (ji32)) + (wrap64 ((rd l0_1 x29_1) * (rd l1_1 x37_2)))))))) ?hg ?ho ?hn ?hr ?_; (case ho => rfl); (case hg => rfl); (case hn => rfl); (case hr => first | (go_simp; done) | (go_simp; rfl)); intro w47 hw; have hg : wr.grownBy w47 (some go35) := (by rw [hw]; exact HP46.2); have hp_ : Kd.R (Kd.int .i64) 3 w47 w.heap.size (fun k_ => (w.heap.size ≤ k_)) (.slice (some ⟨go35, 0, none⟩) x182001_2.length co45) y185 := (by rw [hw, Ny185.out]; exact HP46.1); clear HP46; replace BK175 := Aside0.mk (blk_grown (g := gb175) (o := .cells #[.bool a0_0, .slice (some ad182) l0_1.length c0_1] 84 (0, 0)) (zk BK175) hg (Kd.R_ne HO_182001.out BK175.out (by decide))); replace BK176 := Aside0.mk (blk_grown (g := gb176) (o := .cells #[.bool a1_0, .slice (some ad183) l1_1.length c1_1] 84 (0, 0)) (zk BK176) hg (Kd.R_ne HO_182001.out BK176.out (by decide))); replace BK177 := Aside0.mk (blk_grown (g := gb177) (o := .cells #[.bool false, .slice none 0 0] 84 (0, 0)) (zk BK177) hg (Kd.R_ne HO_182001.out BK177.out (by decide))); replace BK181 := Aside0.mk (blk_grown (g := gb181) (o := .cells #[.bool (!(a0_0 == a1_0)), .slice (some ⟨go35, 0, none⟩) x182001_2.length co45] 84 (0, 0)) (zk BK181) hg (Kd.R_ne HO_182001.out BK181.out (by decide))); replace HO_182001 := Aside0.mk (hp_); replace HB := Aside0.mk ((by rw [hw]; exact below_set (HB.out) GB35.out : Below w.heap.size w w47)); clear hg hw hp_))
                 have n0_ := Aside0.mk (Kd.R_drew HO_182001.out)
                 have n1_ := Aside0.mk (blk_drew BK175.out)
                 have n2_ := Aside0.mk (blk_drew BK176.out)
                 have n3_ := Aside0.mk (blk_drew BK177.out)
                 have n4_ := Aside0.mk (blk_drew BK181.out)
                 have n5_ := Aside0.mk (below_drew1 HB.out)
                 clear HO_182001
                 clear BK175
                 clear BK176
                 clear BK177
                 clear BK181
                 clear HB
                 have HO_182001 := n0_
                 have BK175 := n1_
                 have BK176 := n2_
                 have BK177 := n3_
                 have BK181 := n4_
                 have HB := n5_
                 clear n0_ n1_ n2_ n3_ n4_ n5_
                 have p186 : 0 ≤ ((ji36) : Int) := of_decide_eq_true (by assumption)
                 have q186 : (ji36) < (y185.length : Int) := (by have h_ : ((ji36) : Int) < ((x182001_2.length : Int) : Int) := of_decide_eq_true (by assumption); first | (have e_ := (Kd.R_reads' HO_182001.out).1; omega) | simpa only [Ny185.out, List.length_set] using h_)
                 have ql186 : (((ji36) : Int) < ((x182001_2.length : Int) : Int)) = True := eq_true (of_decide_eq_true (by assumption))
                 obtain ⟨ad186, e186, hx186_0⟩ := Kd.at_int (Kd.R_reads' HO_182001.out).2.2 (ji36) p186 q186
                 obtain rfl : (⟨go35, 0, none⟩ : Addr) = ad186 := (by injection e186)
                 (first | simp only [add_plain] at hx186_0 | simp only [add_at] at hx186_0 | simp only [Addr.add, Nat.zero_add] at hx186_0 | skip)
                 replace p186 := eq_true p186
                 replace q186 := eq_true q186
                 have p187 : 0 ≤ ((ji32) : Int) := of_decide_eq_true (by assumption)
                 have q187 : (ji32) < (y185.length : Int) := (by have h_ : ((ji32) : Int) < ((x182001_2.length : Int) : Int) := of_decide_eq_true (by assumption); first | (have e_ := (Kd.R_reads' HO_182001.out).1; omega) | simpa only [Ny185.out, List.length_set] using h_)
                 have ql187 : (((ji32) : Int) < ((x182001_2.length : Int) : Int)) = True := eq_true (of_decide_eq_true (by assumption))
                 obtain ⟨ad187, e187, hx187_0⟩ := Kd.at_int (Kd.R_reads' HO_182001.out).2.2 (ji32) p187 q187
                 obtain rfl : (⟨go35, 0, none⟩ : Addr) = ad187 := (by injection e187)
                 (first | simp only [add_plain] at hx187_0 | simp only [add_at] at hx187_0 | simp only [Addr.add, Nat.zero_add] at hx187_0 | skip)
                 replace p187 := eq_true p187
                 replace q187 := eq_true q187
                 have p39 : 0 ≤ ((ji36) : Int) := of_decide_eq_true (by assumption)
                 have q39 : ((ji36) : Int) < ((x182001_2.length : Int) : Int) := of_decide_eq_true (by assumption)
                 obtain ⟨hx39_0, hf39_0⟩ := Kd.R_celln 0 HO_182001.out ((ji36) : Int) p39 q39
                 replace p39 := eq_true p39
                 replace q39 := eq_true q39
                 have HP49 := Kd.R_putn HO_182001.out ((ji36) : Int) (wrap64 ((rd y185 (ji36)) + (wrap64 (Int.tdiv (rd y185 (ji32)) 1000000))))
                 rw [← Ny188.out] at HP49
                 have HQ49 := Aside0.mk HP49
                 clear HP49
                 refine start_ (n := 19) (S := fun w' => w'.cell? ⟨gb181, 0, none⟩ = some (.bool (!(a0_0 == a1_0))) ∧ w'.cell? ⟨gb181, 1, none⟩ = some (.slice (some ⟨go35, 0, none⟩) x182001_2.length co45) ∧ w'.cell? ⟨go35, ((ji36)).toNat, none⟩ = some (.int .i64 (rd y185 (ji36))) ∧ w'.cell? ⟨go35, ((ji32)).toNat, none⟩ = some (.int .i64 (rd y185 (ji32)))) (ds := [18]) (bm 19 0) (by kernel_rfl) rfl rfl ⟨(blk_cell BK181.out 0).trans rfl, (blk_cell BK181.out 1).trans rfl, hx186_0, hx187_0⟩ (fun hHeld => ?_); refine with_tabW interchangeref1_TimesOf.tab9 interchangeref1_TimesOf.bits9 (fun HT_ HW_ => ?_)
                 generalize w47.drew = w48 at HO_182001 BK175 BK176 BK177 BK181 HB HQ49 hf39_0 hx186_0 hx187_0 hx39_0 hHeld ⊢
                 refine pu 0 54 (bm 19 1) HT_ ?_
                 refine pu 2 56 (bm 19 5) HT_ ?_
                 refine pu 3 57 (bm 19 13) HT_ ?_
                 refine pu 4 58 (bm 19 29) HT_ ?_
                 refine pu 5 59 (bm 19 61) HT_ ?_
                 refine pu 8 62 (bm 19 317) HT_ ?_
                 refine pu 10 64 (bm 19 1341) HT_ ?_
                 refine pu 11 65 (bm 19 3389) HT_ ?_
                 refine pu 12 66 (bm 19 7485) HT_ ?_
                 refine ta4 1 55 (bm 19 7487) HT_ HW_ hHeld ?_
                 refine pu 6 60 (bm 19 7551) HT_ ?_
                 refine ta4 7 61 (bm 19 7679) HT_ HW_ hHeld ?_
                 refine ta4 9 63 (bm 19 8191) HT_ HW_ hHeld ?_
                 refine pu 13 67 (bm 19 16383) HT_ ?_
                 refine ta4 14 68 (bm 19 32767) HT_ HW_ hHeld ?_
                 refine pu 15 69 (bm 19 65535) HT_ ?_
                 refine pu 16 70 (bm 19 131071) HT_ ?_
                 refine pu 17 71 (bm 19 262143) HT_ ?_
                 refine last_ (i := 18) (N := none) (bm 19 524287) rfl rfl (one_of HT_.out (by kernel_rfl)) (by decide) (fun K hK => ?_)
                 refine skip_ (w1 := ?_) (by rfl) rfl ?_ ?_
                 rotate_left
                 ·go_simp
                  rfl
                 refine hK.out _ _ ?_
                 clear hK K
                 refine done_ (done_of HT_.out (by kernel_rfl)) ?_
                 have n0_ : Aside0 (Kd.R (Kd.int .i64) 3 (w48.setCell ⟨go35, ((ji36) : Int).toNat, none⟩ (.int .i64 (wrap64 ((rd y185 (ji36)) + (wrap64 (Int.tdiv (rd y185 (ji32)) 1000000)))))) w.heap.size (fun k_ => (w.heap.size ≤ k_)) (.slice (some ⟨go35, 0, none⟩) x182001_2.length co45) y188) := ⟨by (with_reducible repeat (first | apply Kd.R_alloc | apply Kd.R_drewN | apply Kd.R_drew)); exact HQ49.out⟩
                 have n1_ : Aside0 ((w48.setCell ⟨go35, ((ji36) : Int).toNat, none⟩ (.int .i64 (wrap64 ((rd y185 (ji36)) + (wrap64 (Int.tdiv (rd y185 (ji32)) 1000000)))))).heap[gb175]? = some (.cells #[.bool a0_0, .slice (some ad182) l0_1.length c0_1] 84 (0, 0))) := ⟨by (with_reducible repeat (first | refine blk_drewN ?_ _ | refine blk_drew ?_ | refine blk_alloc ?_ _)); refine blk_far ?_ (by have h_ := Kd.R_ne HO_182001.out BK175.out (by decide); intro e_; exact h_ (by rw [e_]; rfl)) _; exact zk BK175⟩
                 have n2_ : Aside0 ((w48.setCell ⟨go35, ((ji36) : Int).toNat, none⟩ (.int .i64 (wrap64 ((rd y185 (ji36)) + (wrap64 (Int.tdiv (rd y185 (ji32)) 1000000)))))).heap[gb176]? = some (.cells #[.bool a1_0, .slice (some ad183) l1_1.length c1_1] 84 (0, 0))) := ⟨by (with_reducible repeat (first | refine blk_drewN ?_ _ | refine blk_drew ?_ | refine blk_alloc ?_ _)); refine blk_far ?_ (by have h_ := Kd.R_ne HO_182001.out BK176.out (by decide); intro e_; exact h_ (by rw [e_]; rfl)) _; exact zk BK176⟩
                 have n3_ : Aside0 ((w48.setCell ⟨go35, ((ji36) : Int).toNat, none⟩ (.int .i64 (wrap64 ((rd y185 (ji36)) + (wrap64 (Int.tdiv (rd y185 (ji32)) 1000000)))))).heap[gb177]? = some (.cells #[.bool false, .slice none 0 0] 84 (0, 0))) := ⟨by (with_reducible repeat (first | refine blk_drewN ?_ _ | refine blk_drew ?_ | refine blk_alloc ?_ _)); refine blk_far ?_ (by have h_ := Kd.R_ne HO_182001.out BK177.out (by decide); intro e_; exact h_ (by rw [e_]; rfl)) _; exact zk BK177⟩
                 have n4_ : Aside0 ((w48.setCell ⟨go35, ((ji36) : Int).toNat, none⟩ (.int .i64 (wrap64 ((rd y185 (ji36)) + (wrap64 (Int.tdiv (rd y185 (ji32)) 1000000)))))).heap[gb181]? = some (.cells #[.bool (!(a0_0 == a1_0)), .slice (some ⟨go35, 0, none⟩) x182001_2.length co45] 84 (0, 0))) := ⟨by (with_reducible repeat (first | refine blk_drewN ?_ _ | refine blk_drew ?_ | refine blk_alloc ?_ _)); refine blk_far ?_ (by have h_ := Kd.R_ne HO_182001.out BK181.out (by decide); intro e_; exact h_ (by rw [e_]; rfl)) _; exact zk BK181⟩
                 have n5_ : Aside0 (Below w.heap.size w (w48.setCell ⟨go35, ((ji36) : Int).toNat, none⟩ (.int .i64 (wrap64 ((rd y185 (ji36)) + (wrap64 (Int.tdiv (rd y185 (ji32)) 1000000))))))) := ⟨(zb w)⟩
                 (try clear HO_182001)
                 (try clear BK175)
                 (try clear BK176)
                 (try clear BK177)
                 (try clear BK181)
                 (try clear HB)
                 generalize (w48.setCell ⟨go35, ((ji36) : Int).toNat, none⟩ (.int .i64 (wrap64 ((rd y185 (ji36)) + (wrap64 (Int.tdiv (rd y185 (ji32)) 1000000)))))) = w50 at n0_ n1_ n2_ n3_ n4_ n5_ ⊢
                 have HO_182001 := n0_
                 have BK175 := n1_
                 have BK176 := n2_
                 have BK177 := n3_
                 have BK181 := n4_
                 have HB := n5_
                 clear n0_ n1_ n2_ n3_ n4_ n5_
                 obtain ⟨hcz51_0, hcz51_1, hfz51_0, hfz51_1⟩ := cz2 BK181
                 have p189 : 0 ≤ ((ji32) : Int) := of_decide_eq_true (by assumption)
                 have q189 : (ji32) < (y188.length : Int) := (by have h_ : ((ji32) : Int) < ((x182001_2.length : Int) : Int) := of_decide_eq_true (by assumption); first | (have e_ := (Kd.R_reads' HO_182001.out).1; omega) | simpa only [Ny185.out, Ny188.out, List.length_set] using h_)
                 have ql189 : (((ji32) : Int) < ((x182001_2.length : Int) : Int)) = True := eq_true (of_decide_eq_true (by assumption))
                 obtain ⟨ad189, e189, hx189_0⟩ := Kd.at_int (Kd.R_reads' HO_182001.out).2.2 (ji32) p189 q189
                 obtain rfl : (⟨go35, 0, none⟩ : Addr) = ad189 := (by injection e189)
                 (first | simp only [add_plain] at hx189_0 | simp only [add_at] at hx189_0 | simp only [Addr.add, Nat.zero_add] at hx189_0 | skip)
                 replace p189 := eq_true p189
                 replace q189 := eq_true q189
                 have p40 : 0 ≤ ((ji32) : Int) := of_decide_eq_true (by assumption)
                 have q40 : ((ji32) : Int) < ((x182001_2.length : Int) : Int) := of_decide_eq_true (by assumption)
                 obtain ⟨hx40_0, hf40_0⟩ := Kd.R_celln 0 HO_182001.out ((ji32) : Int) p40 q40
                 replace p40 := eq_true p40
                 replace q40 := eq_true q40
                 obtain ⟨hy52_, hz52_⟩ := Kd.R_celln 0 HO_182001.out ((ji32) : Int) (of_decide_eq_true (by assumption)) (of_decide_eq_true (by assumption))
                 have HP52 := Kd.R_putg HO_182001.out ((ji32) : Int) (Int.tmod (rd y188 (ji32)) 1000000)
                 try go_wp2_with (first | ((with_reducible refine gate_store (t := 3) (p := 80) rfl ?_); refine store_event (t := 3) (p := 80) (v := ?vo_w53) (w1 := (w50.setCell ⟨go35, ((ji32) : Int).toNat, none⟩ (.int .i64 (Int.tmod (rd y188 (ji32)) 1000000)))) ?hg ?ho ?hn ?hr ?_; (case ho => rfl); (case hg => rfl); (case hn => rfl); (case hr => first | (go_simp; done) | (go_simp; rfl)); intro w53 hw; have hg : w50.grownBy w53 (some go35) := (by rw [hw]; exact HP52.2); have hp_ : Kd.R (Kd.int .i64) 3 w53 w.heap.size (fun k_ => (w.heap.size ≤ k_)) (.slice (some ⟨go35, 0, none⟩) x182001_2.length co45) y190 := (by rw [hw, Ny190.out]; exact HP52.1); clear HP52; replace BK175 := Aside0.mk (blk_grown (g := gb175) (o := .cells #[.bool a0_0, .slice (some ad182) l0_1.length c0_1] 84 (0, 0)) (zk BK175) hg (Kd.R_ne HO_182001.out BK175.out (by decide))); replace BK176 := Aside0.mk (blk_grown (g := gb176) (o := .cells #[.bool a1_0, .slice (some ad183) l1_1.length c1_1] 84 (0, 0)) (zk BK176) hg (Kd.R_ne HO_182001.out BK176.out (by decide))); replace BK177 := Aside0.mk (blk_grown (g := gb177) (o := .cells #[.bool false, .slice none 0 0] 84 (0, 0)) (zk BK177) hg (Kd.R_ne HO_182001.out BK177.out (by decide))); replace BK181 := Aside0.mk (blk_grown (g := gb181) (o := .cells #[.bool (!(a0_0 == a1_0)), .slice (some ⟨go35, 0, none⟩) x182001_2.length co45] 84 (0, 0)) (zk BK181) hg (Kd.R_ne HO_182001.out BK181.out (by decide))); replace HO_182001 := Aside0.mk (hp_); replace HB := Aside0.mk ((by rw [hw]; exact below_set (HB.out) GB35.out : Below w.heap.size w w53)); clear hg hw hp_))
                 go_roundg k2
                 case measure => have := HK1.out; have := HK2.out; omega
                 case rel => exact ⟨(wrap64 (x37_2 + 1)), (y190), (.slice (some ⟨go35, 0, none⟩) x182001_2.length co45), ar, H', ⟨by have := HK1.out; have := HK2.out; omega⟩, ⟨zo HO_182001⟩, ⟨(zk BK175)⟩, ⟨(zk BK176)⟩, ⟨(zk BK177)⟩, ⟨(zk BK181)⟩, ⟨(zb w)⟩⟩
                ·rw [if_neg c38] at H
                 exact absurd H (by simp)
               ·rw [if_neg c37] at H
                exact absurd H (by simp)
              ·rw [if_neg c34] at H
               exact absurd H (by simp)
             ·rw [if_neg c33] at H
              exact absurd H (by simp)
            ·rw [if_neg c31] at H
             exact absurd H (by simp)
           ·rw [if_neg c30] at H
            exact absurd H (by simp)
          ·rw [if_neg c29] at H
           have c29b0 : decide (x37_2 < (l1_1.length : Int)) = false := decide_eq_false c29
           clear c29
           have H' := Aside0.mk H
           clear H
           go_wp2
           go_roundg k2
           case measure => have := HK1.out; have := HK2.out; omega
           case rel => exact ⟨(wrap64 (x29_1 + 1)), (x182001_2), (u182001), ar, H', ⟨by have := HK1.out; have := HK2.out; omega⟩, ⟨zo HO_182001⟩, ⟨(zk BK175)⟩, ⟨(zk BK176)⟩, ⟨(zk BK177)⟩, ⟨(zk BK181)⟩, ⟨(zb w)⟩⟩
       ·rw [if_neg c24] at H
        exact absurd H (by simp)
      ·rw [if_neg c23] at H
       exact absurd H (by simp)
     ·rw [if_neg c22] at H
      have c22b0 : decide (x29_1 < (l0_1.length : Int)) = false := decide_eq_false c22
      clear c22
      have H' := Aside0.mk H
      clear H
      have hnb54 := NB181_175.out
      have hnc54 := NB175_181.out
      have hnb55 := NB181_176.out
      have hnc55 := NB176_181.out
      have hnb56 := NB181_177.out
      have hnc56 := NB177_181.out
      obtain ⟨hcz57_0, hcz57_1, hfz57_0, hfz57_1⟩ := cz2 BK181
      obtain ⟨Ao58, co58, eo58⟩ := Kd.R_slice HO_182001.out
      subst eo58
      go_wp2
      try simp only [sq]
      go_loopg [87] k1 (fun kq v87 w' => ∃ (x87_2 : Int) (x182001_2 : List Int) (u182001 : Value), v87 = .int .i64 x87_2 ∧ Aside0 (interchangeref1_TimesOf.l2 kq (wrap64 ((x182001_1.length : Int) - 1)) x87_2 (!(a0_0 == a1_0)) x182001_2 = some (r1, r2)) ∧ Aside0 (kq ≤ k1) ∧ Aside0 (Kd.R (Kd.int .i64) 3 w' w.heap.size (fun k_ => (w.heap.size ≤ k_)) u182001 x182001_2) ∧ Aside0 (w'.heap[gb175]? = some (.cells #[.bool a0_0, (.slice A0_1 l0_1.length c0_1)] 84 (0, 0))) ∧ Aside0 (w'.heap[gb176]? = some (.cells #[.bool a1_0, (.slice A1_1 l1_1.length c1_1)] 84 (0, 0))) ∧ Aside0 (w'.heap[gb177]? = some (.cells #[.bool false, (.slice none 0 0)] 84 (0, 0))) ∧ Aside0 (w'.heap[gb181]? = some (.cells #[.bool (!(a0_0 == a1_0)), u182001] 84 (0, 0))) ∧ Aside0 (Below w.heap.size w w'))
      case atStart => exact ⟨(0), (x182001_1), (.slice Ao58 x182001_1.length co58), ar, H', ⟨Nat.le_refl _⟩, ⟨zo HO_182001⟩, ⟨(zk BK175)⟩, ⟨(zk BK176)⟩, ⟨(zk BK177)⟩, ⟨(zk BK181)⟩, ⟨(zb w)⟩⟩
      case round =>
       clear H'
       try clear c1
       try clear p1
       try clear q1
       try clear hx1
       try clear c2
       try clear p2
       try clear c3
       try clear p3
       try clear q3
       try clear hx3
       try clear hf3
       try clear c4
       try clear c4b0
       try clear c4b1
       try clear p4
       try clear q4
       try clear hx4
       try clear hf4
       try clear c5
       try clear c5b0
       try clear c5b1
       try clear p6
       try clear c9
       try clear c18
       try clear p18
       try clear q18
       try clear hx18
       try clear c19
       try clear c20
       try clear c22
       try clear c22b0
       try clear c23
       try clear c23b0
       try clear c24
       try clear c24b0
       try clear c25
       try clear c26
       try clear c27
       try clear c29
       try clear c29b0
       try clear c30
       try clear c30b0
       try clear c31
       try clear c31b0
       try clear c33
       try clear c33b0
       try clear c34
       try clear c34b0
       try clear p35
       try clear q35
       try clear hx35
       try clear hf35
       try clear c37
       try clear c37b0
       try clear c38
       try clear c38b0
       try clear p39
       try clear q39
       try clear hx39
       try clear hf39
       try clear p40
       try clear q40
       try clear hx40
       try clear hf40
       try clear c41
       try clear c42
       try clear c43
       try clear c54
       try clear c55
       try clear c56
       try clear hcz21_0 hcz21_1
       try clear hcz28_0 hcz28_1
       try clear hcz44_0 hcz44_1
       try clear hcz51_0 hcz51_1
       try clear hcz57_0 hcz57_1
       try clear hfz21_0 hfz21_1
       try clear hfz28_0 hfz28_1
       try clear hfz44_0 hfz44_1
       try clear hfz51_0 hfz51_1
       try clear hfz57_0 hfz57_1
       try clear hx182_0
       try clear hx183_0
       try clear hx184_0
       try clear hx186_0
       try clear hx187_0
       try clear hx189_0
       try clear hx35_0
       try clear hx39_0
       try clear hx40_0
       try clear p1
       try clear p18
       try clear p182
       try clear p183
       try clear p184
       try clear p186
       try clear p187
       try clear p189
       try clear p2
       try clear p35
       try clear p39
       try clear p40
       try clear p6
       try clear q1
       try clear q18
       try clear q182
       try clear q183
       try clear q184
       try clear q186
       try clear q187
       try clear q189
       try clear q35
       try clear q39
       try clear q40
       obtain ⟨x87_2, x182001_2, u182001, rfl, HA, HK2, HO_182001, BK175, BK176, BK177, BK181, HB⟩ := hrel
       cases gk with
       | zero => exact absurd HA.out (by simp [interchangeref1_TimesOf.l2])
       | succ k2 =>
        have H := HA.out
        clear HA
        simp only [interchangeref1_TimesOf.l2] at H
        by_cases c59 : x87_2 < (wrap64 ((x182001_1.length : Int) - 1))
        ·rw [if_pos c59] at H
         have c59b0 : decide (x87_2 < (wrap64 ((x182001_1.length : Int) - 1))) = true := decide_eq_true c59
         clear c59
         obtain ⟨ji60, hji60⟩ : ∃ j_ : Int, (wrap64 (x87_2 + 1)) = j_ := ⟨_, rfl⟩
         replace H : (if 0 ≤ (ji60) then (if (ji60) < (x182001_2.length : Int) then (if 0 ≤ x87_2 then (if x87_2 < (x182001_2.length : Int) then ((some (x182001_2.set ((ji60) : Int).toNat (wrap64 ((rd x182001_2 (ji60)) + (wrap64 (Int.tdiv (rd x182001_2 x87_2) 1000000)))) : List Int)).bind fun y193 => (interchangeref1_TimesOf.l2 k2 (wrap64 ((x182001_1.length : Int) - 1)) ji60 (!(a0_0 == a1_0)) (y193.set (x87_2 : Int).toNat (Int.tmod (rd y193 x87_2) 1000000)))) else (none)) else (none)) else (none)) else (none)) = some (r1, r2) := by first | (rw [hji60] at H; exact H) | (simp only [hji60] at H ⊢; exact H)
         have hji60w : (IntKind.i64.wrap (x87_2 + 1)) = ji60 := (i64_w _).trans hji60
         by_cases c61 : 0 ≤ (ji60)
         ·rw [if_pos c61] at H
          have c61b0 : decide (0 ≤ (ji60)) = true := decide_eq_true c61
          clear c61
          by_cases c62 : (ji60) < (x182001_2.length : Int)
          ·rw [if_pos c62] at H
           have c62b0 : decide ((ji60) < (x182001_2.length : Int)) = true := decide_eq_true c62
           clear c62
           by_cases c63 : 0 ≤ x87_2
           ·rw [if_pos c63] at H
            have c63b0 : decide (0 ≤ x87_2) = true := decide_eq_true c63
            clear c63
            by_cases c64 : x87_2 < (x182001_2.length : Int)
            ·rw [if_pos c64] at H
             have c64b0 : decide (x87_2 < (x182001_2.length : Int)) = true := decide_eq_true c64
             clear c64
             obtain ⟨y193, hy193⟩ : ∃ y_ : List Int, y_ = (x182001_2.set ((ji60) : Int).toNat (wrap64 ((rd x182001_2 (ji60)) + (wrap64 (Int.tdiv (rd x182001_2 x87_2) 1000000))))) := ⟨_, rfl⟩
             replace H : (interchangeref1_TimesOf.l2 k2 (wrap64 ((x182001_1.length : Int) - 1)) ji60 (!(a0_0 == a1_0)) (y193.set (x87_2 : Int).toNat (Int.tmod (rd y193 x87_2) 1000000))) = some (r1, r2) := by first | (rw [hy193]; with_reducible exact H) | (have H2_ := (Option.bind_some _ _).symm.trans H; rw [hy193]; with_reducible exact H2_) | (have H2_ := (Option.bind_some _ _).symm.trans H; with_reducible exact H2_) | with_reducible exact H | (rw [hy193]; exact H) | exact H
             have Ny193 := Aside0.mk hy193
             clear hy193
             obtain ⟨y195, hy195⟩ : ∃ y_ : List Int, y_ = (y193.set (x87_2 : Int).toNat (Int.tmod (rd y193 x87_2) 1000000)) := ⟨_, rfl⟩
             replace H : (interchangeref1_TimesOf.l2 k2 (wrap64 ((x182001_1.length : Int) - 1)) ji60 (!(a0_0 == a1_0)) y195) = some (r1, r2) := by first | (rw [hy195]; with_reducible exact H) | (have H2_ := (Option.bind_some _ _).symm.trans H; rw [hy195]; with_reducible exact H2_) | (have H2_ := (Option.bind_some _ _).symm.trans H; with_reducible exact H2_) | with_reducible exact H | (rw [hy195]; exact H) | exact H
             have Ny195 := Aside0.mk hy195
             clear hy195
             have H' := Aside0.mk H
             clear H
             try go_wp2
             have n0_ := Aside0.mk (Kd.R_drew HO_182001.out)
             have n1_ := Aside0.mk (blk_drew BK175.out)
             have n2_ := Aside0.mk (blk_drew BK176.out)
             have n3_ := Aside0.mk (blk_drew BK177.out)
             have n4_ := Aside0.mk (blk_drew BK181.out)
             have n5_ := Aside0.mk (below_drew1 HB.out)
             clear HO_182001
             clear BK175
             clear BK176
             clear BK177
             clear BK181
             clear HB
             have HO_182001 := n0_
             have BK175 := n1_
             have BK176 := n2_
             have BK177 := n3_
             have BK181 := n4_
             have HB := n5_
             clear n0_ n1_ n2_ n3_ n4_ n5_
             obtain ⟨Ao68, co68, eo68⟩ := Kd.R_slice HO_182001.out
             (first | subst eo68 | (injection eo68 with f1_ f2_ f3_; have f4_ := f1_.symm; have f5_ := f3_.symm; clear f1_ f2_ f3_; subst f4_; subst f5_))
             have p191 : 0 ≤ ((ji60) : Int) := of_decide_eq_true (by assumption)
             have q191 : (ji60) < (x182001_2.length : Int) := of_decide_eq_true (by assumption)
             obtain ⟨ad191, e191, hx191_0⟩ := Kd.at_int (Kd.R_reads' HO_182001.out).2.2 (ji60) p191 q191
             cases e191
             replace p191 := eq_true p191
             replace q191 := eq_true q191
             have p192 : 0 ≤ (x87_2 : Int) := of_decide_eq_true (by assumption)
             have q192 : x87_2 < (x182001_2.length : Int) := of_decide_eq_true (by assumption)
             obtain ⟨ad192, e192, hx192_0⟩ := Kd.at_int (Kd.R_reads' HO_182001.out).2.2 x87_2 p192 q192
             obtain rfl : ad191 = ad192 := (by injection e192)
             replace p192 := eq_true p192
             replace q192 := eq_true q192
             have p65 : 0 ≤ ((ji60) : Int) := of_decide_eq_true (by assumption)
             have q65 : ((ji60) : Int) < ((x182001_2.length : Int) : Int) := of_decide_eq_true (by assumption)
             obtain ⟨go65, co65, eo65, gb65, gl65, cl65, HG65⟩ := Kd.R_form HO_182001.out (by omega)
             (first | cases eo65 | (injection eo65 with ea_ en_ ec_; (first | subst ea_ | (injection ea_ with ea_; subst ea_)); subst ec_; clear en_))
             have GB65 := Aside0.mk gb65
             have GG65 := Aside0.mk HG65
             clear gb65 gl65 HG65
             (first | simp only [add_plain] at hx191_0 | skip)
             (first | simp only [add_plain] at hx192_0 | skip)
             obtain ⟨hx65_0, hf65_0⟩ := Kd.R_celln 0 HO_182001.out ((ji60) : Int) p65 q65
             replace p65 := eq_true p65
             replace q65 := eq_true q65
             have HP69 := Kd.R_putn HO_182001.out ((ji60) : Int) (wrap64 ((rd x182001_2 (ji60)) + (wrap64 (Int.tdiv (rd x182001_2 x87_2) 1000000))))
             rw [← Ny193.out] at HP69
             have HQ69 := Aside0.mk HP69
             clear HP69
             refine start_ (n := 15) (S := fun w' => w'.cell? ⟨gb181, 0, none⟩ = some (.bool (!(a0_0 == a1_0))) ∧ w'.cell? ⟨gb181, 1, none⟩ = some (.slice (some ⟨go65, 0, none⟩) x182001_2.length co68) ∧ w'.cell? ⟨go65, ((ji60)).toNat, none⟩ = some (.int .i64 (rd x182001_2 (ji60))) ∧ w'.cell? ⟨go65, (x87_2).toNat, none⟩ = some (.int .i64 (rd x182001_2 x87_2))) (ds := [14]) (bm 15 0) (by kernel_rfl) rfl rfl ⟨(blk_cell BK181.out 0).trans rfl, (blk_cell BK181.out 1).trans rfl, hx191_0, hx192_0⟩ (fun hHeld => ?_); refine with_tabW interchangeref1_TimesOf.tab16 interchangeref1_TimesOf.bits16 (fun HT_ HW_ => ?_)
             generalize wr.drew = w67 at HO_182001 BK175 BK176 BK177 BK181 HB GG65 HQ69 hf65_0 hx191_0 hx192_0 hx65_0 hHeld ⊢
             refine pu 0 90 (bm 15 1) HT_ ?_
             refine pu 2 92 (bm 15 5) HT_ ?_
             refine pu 3 93 (bm 15 13) HT_ ?_
             refine pu 6 96 (bm 15 77) HT_ ?_
             refine pu 8 98 (bm 15 333) HT_ ?_
             refine ta4 1 91 (bm 15 335) HT_ HW_ hHeld ?_
             refine pu 4 94 (bm 15 351) HT_ ?_
             refine ta4 5 95 (bm 15 383) HT_ HW_ hHeld ?_
             refine ta4 7 97 (bm 15 511) HT_ HW_ hHeld ?_
             refine pu 9 99 (bm 15 1023) HT_ ?_
             refine ta4 10 100 (bm 15 2047) HT_ HW_ hHeld ?_
             refine pu 11 101 (bm 15 4095) HT_ ?_
             refine pu 12 102 (bm 15 8191) HT_ ?_
             refine pu 13 103 (bm 15 16383) HT_ ?_
             refine last_ (i := 14) (N := none) (bm 15 32767) rfl rfl (one_of HT_.out (by kernel_rfl)) (by decide) (fun K hK => ?_)
             refine skip_ (w1 := ?_) (by rfl) rfl ?_ ?_
             rotate_left
             ·go_simp
              rfl
             refine hK.out _ _ ?_
             clear hK K
             refine done_ (done_of HT_.out (by kernel_rfl)) ?_
             have n0_ : Aside0 (Kd.R (Kd.int .i64) 3 (w67.setCell ⟨go65, ((ji60) : Int).toNat, none⟩ (.int .i64 (wrap64 ((rd x182001_2 (ji60)) + (wrap64 (Int.tdiv (rd x182001_2 x87_2) 1000000)))))) w.heap.size (fun k_ => (w.heap.size ≤ k_)) (.slice (some ⟨go65, 0, none⟩) x182001_2.length co68) y193) := ⟨by (with_reducible repeat (first | apply Kd.R_alloc | apply Kd.R_drewN | apply Kd.R_drew)); exact HQ69.out⟩
             have n1_ : Aside0 ((w67.setCell ⟨go65, ((ji60) : Int).toNat, none⟩ (.int .i64 (wrap64 ((rd x182001_2 (ji60)) + (wrap64 (Int.tdiv (rd x182001_2 x87_2) 1000000)))))).heap[gb175]? = some (.cells #[.bool a0_0, .slice A0_1 l0_1.length c0_1] 84 (0, 0))) := ⟨by (with_reducible repeat (first | refine blk_drewN ?_ _ | refine blk_drew ?_ | refine blk_alloc ?_ _)); refine blk_far ?_ (by have h_ := Kd.R_ne HO_182001.out BK175.out (by decide); intro e_; exact h_ (by rw [e_]; rfl)) _; exact zk BK175⟩
             have n2_ : Aside0 ((w67.setCell ⟨go65, ((ji60) : Int).toNat, none⟩ (.int .i64 (wrap64 ((rd x182001_2 (ji60)) + (wrap64 (Int.tdiv (rd x182001_2 x87_2) 1000000)))))).heap[gb176]? = some (.cells #[.bool a1_0, .slice A1_1 l1_1.length c1_1] 84 (0, 0))) := ⟨by (with_reducible repeat (first | refine blk_drewN ?_ _ | refine blk_drew ?_ | refine blk_alloc ?_ _)); refine blk_far ?_ (by have h_ := Kd.R_ne HO_182001.out BK176.out (by decide); intro e_; exact h_ (by rw [e_]; rfl)) _; exact zk BK176⟩
             have n3_ : Aside0 ((w67.setCell ⟨go65, ((ji60) : Int).toNat, none⟩ (.int .i64 (wrap64 ((rd x182001_2 (ji60)) + (wrap64 (Int.tdiv (rd x182001_2 x87_2) 1000000)))))).heap[gb177]? = some (.cells #[.bool false, .slice none 0 0] 84 (0, 0))) := ⟨by (with_reducible repeat (first | refine blk_drewN ?_ _ | refine blk_drew ?_ | refine blk_alloc ?_ _)); refine blk_far ?_ (by have h_ := Kd.R_ne HO_182001.out BK177.out (by decide); intro e_; exact h_ (by rw [e_]; rfl)) _; exact zk BK177⟩
             have n4_ : Aside0 ((w67.setCell ⟨go65, ((ji60) : Int).toNat, none⟩ (.int .i64 (wrap64 ((rd x182001_2 (ji60)) + (wrap64 (Int.tdiv (rd x182001_2 x87_2) 1000000)))))).heap[gb181]? = some (.cells #[.bool (!(a0_0 == a1_0)), .slice (some ⟨go65, 0, none⟩) x182001_2.length co68] 84 (0, 0))) := ⟨by (with_reducible repeat (first | refine blk_drewN ?_ _ | refine blk_drew ?_ | refine blk_alloc ?_ _)); refine blk_far ?_ (by have h_ := Kd.R_ne HO_182001.out BK181.out (by decide); intro e_; exact h_ (by rw [e_]; rfl)) _; exact zk BK181⟩
             have n5_ : Aside0 (Below w.heap.size w (w67.setCell ⟨go65, ((ji60) : Int).toNat, none⟩ (.int .i64 (wrap64 ((rd x182001_2 (ji60)) + (wrap64 (Int.tdiv (rd x182001_2 x87_2) 1000000))))))) := ⟨(zb w)⟩
             (try clear HO_182001)
             (try clear BK175)
             (try clear BK176)
             (try clear BK177)
             (try clear BK181)
             (try clear HB)
             generalize (w67.setCell ⟨go65, ((ji60) : Int).toNat, none⟩ (.int .i64 (wrap64 ((rd x182001_2 (ji60)) + (wrap64 (Int.tdiv (rd x182001_2 x87_2) 1000000)))))) = w70 at n0_ n1_ n2_ n3_ n4_ n5_ ⊢
             have HO_182001 := n0_
             have BK175 := n1_
             have BK176 := n2_
             have BK177 := n3_
             have BK181 := n4_
             have HB := n5_
             clear n0_ n1_ n2_ n3_ n4_ n5_
             have hnb71 := NB181_175.out
             have hnc71 := NB175_181.out
             have hnb72 := NB181_176.out
             have hnc72 := NB176_181.out
             have hnb73 := NB181_177.out
             have hnc73 := NB177_181.out
             obtain ⟨hcz74_0, hcz74_1, hfz74_0, hfz74_1⟩ := cz2 BK181
             have p194 : 0 ≤ (x87_2 : Int) := of_decide_eq_true (by assumption)
             have q194 : x87_2 < (y193.length : Int) := (by have h_ : (x87_2 : Int) < ((x182001_2.length : Int) : Int) := of_decide_eq_true (by assumption); first | (have e_ := (Kd.R_reads' HO_182001.out).1; omega) | simpa only [Ny193.out, List.length_set] using h_)
             have ql194 : ((x87_2 : Int) < ((x182001_2.length : Int) : Int)) = True := eq_true (of_decide_eq_true (by assumption))
             obtain ⟨ad194, e194, hx194_0⟩ := Kd.at_int (Kd.R_reads' HO_182001.out).2.2 x87_2 p194 q194
             obtain rfl : (⟨go65, 0, none⟩ : Addr) = ad194 := (by injection e194)
             (first | simp only [add_plain] at hx194_0 | simp only [add_at] at hx194_0 | simp only [Addr.add, Nat.zero_add] at hx194_0 | skip)
             replace p194 := eq_true p194
             replace q194 := eq_true q194
             have p66 : 0 ≤ (x87_2 : Int) := of_decide_eq_true (by assumption)
             have q66 : (x87_2 : Int) < ((x182001_2.length : Int) : Int) := of_decide_eq_true (by assumption)
             obtain ⟨hx66_0, hf66_0⟩ := Kd.R_celln 0 HO_182001.out (x87_2 : Int) p66 q66
             replace p66 := eq_true p66
             replace q66 := eq_true q66
             obtain ⟨hy75_, hz75_⟩ := Kd.R_celln 0 HO_182001.out (x87_2 : Int) (of_decide_eq_true (by assumption)) (of_decide_eq_true (by assumption))
             have HP75 := Kd.R_putg HO_182001.out (x87_2 : Int) (Int.tmod (rd y193 x87_2) 1000000)
             try go_wp2_with (first | ((with_reducible refine gate_store (t := 3) (p := 110) rfl ?_); refine store_event (t := 3) (p := 110) (v := ?vo_w76) (w1 := (w70.setCell ⟨go65, (x87_2 : Int).toNat, none⟩ (.int .i64 (Int.tmod (rd y193 x87_2) 1000000)))) ?hg ?ho ?hn ?hr ?_; (case ho => rfl); (case hg => rfl); (case hn => rfl); (case hr => first | (go_simp; done) | (go_simp; rfl)); intro w76 hw; have hg : w70.grownBy w76 (some go65) := (by rw [hw]; exact HP75.2); have hp_ : Kd.R (Kd.int .i64) 3 w76 w.heap.size (fun k_ => (w.heap.size ≤ k_)) (.slice (some ⟨go65, 0, none⟩) x182001_2.length co68) y195 := (by rw [hw, Ny195.out]; exact HP75.1); clear HP75; replace BK175 := Aside0.mk (blk_grown (g := gb175) (o := .cells #[.bool a0_0, .slice A0_1 l0_1.length c0_1] 84 (0, 0)) (zk BK175) hg (Kd.R_ne HO_182001.out BK175.out (by decide))); replace BK176 := Aside0.mk (blk_grown (g := gb176) (o := .cells #[.bool a1_0, .slice A1_1 l1_1.length c1_1] 84 (0, 0)) (zk BK176) hg (Kd.R_ne HO_182001.out BK176.out (by decide))); replace BK177 := Aside0.mk (blk_grown (g := gb177) (o := .cells #[.bool false, .slice none 0 0] 84 (0, 0)) (zk BK177) hg (Kd.R_ne HO_182001.out BK177.out (by decide))); replace BK181 := Aside0.mk (blk_grown (g := gb181) (o := .cells #[.bool (!(a0_0 == a1_0)), .slice (some ⟨go65, 0, none⟩) x182001_2.length co68] 84 (0, 0)) (zk BK181) hg (Kd.R_ne HO_182001.out BK181.out (by decide))); replace HO_182001 := Aside0.mk (hp_); replace HB := Aside0.mk ((by rw [hw]; exact below_set (HB.out) GB65.out : Below w.heap.size w w76)); clear hg hw hp_))
             go_roundg k2
             case measure => have := HK1.out; have := HK2.out; omega
             case rel => exact ⟨(ji60), (y195), (.slice (some ⟨go65, 0, none⟩) x182001_2.length co68), (by first | rfl | (simp; done) | (simp only [← hji60] <;> (first | rfl | simp)) | (simp [*]; done)), H', ⟨by have := HK1.out; have := HK2.out; omega⟩, ⟨zo HO_182001⟩, ⟨(zk BK175)⟩, ⟨(zk BK176)⟩, ⟨(zk BK177)⟩, ⟨(zk BK181)⟩, ⟨(zb w)⟩⟩
            ·rw [if_neg c64] at H
             exact absurd H (by simp)
           ·rw [if_neg c63] at H
            exact absurd H (by simp)
          ·rw [if_neg c62] at H
           exact absurd H (by simp)
         ·rw [if_neg c61] at H
          exact absurd H (by simp)
        ·rw [if_neg c59] at H
         have c59b0 : decide (x87_2 < (wrap64 ((x182001_1.length : Int) - 1))) = false := decide_eq_false c59
         clear c59
         replace H := Option.bind_eq_some_iff.mp H
         obtain ⟨⟨t196, t197⟩, A770, H⟩ := H
         try dsimp only at H
         have A77 := Aside0.mk A770
         clear A770
         simp only [Option.some.injEq, Prod.mk.injEq] at H
         obtain ⟨rfl, rfl⟩ := H
         have hnb78 := NB181_175.out
         have hnc78 := NB175_181.out
         have hnb79 := NB181_176.out
         have hnc79 := NB176_181.out
         have hnb80 := NB181_177.out
         have hnc80 := NB177_181.out
         obtain ⟨hcz81_0, hcz81_1, hfz81_0, hfz81_1⟩ := cz2 BK181
         obtain ⟨Ao82, co82, eo82⟩ := Kd.R_slice HO_182001.out
         subst eo82
         go_wp2_with (first | ((with_reducible refine gC 121 rfl ?_); refine gl_ 113 Tryz.func121 #[.agg #[.bool (!(a0_0 == a1_0)), .slice Ao82 x182001_2.length co82]] ?_; (with_reducible refine (interchangeref1_trimmed.calls k2 (!(a0_0 == a1_0)) (fun k_ => some k_ = (.slice Ao82 x182001_2.length co82 : Value).ownBlock) _ _ x182001_2 t196 t197 _ ?side1 A77.out).mono ?_); (case side1 => exact Kd.R_V (Kd.R_tight rfl (Kd.R_types (Kd.R_types (Kd.R_types (Kd.R_types (HO_182001.out) BK175.out (by decide)) BK176.out (by decide)) BK177.out (by decide)) BK181.out (by decide)))); rintro e w83 ⟨v198, rfl, ho0, hb⟩; refine ⟨_, rfl, ?_⟩; have HO199 := Aside0.mk (Kd.V_lower (Kd.V_mono (ok' := fun k_ => (w.heap.size ≤ k_) ∧ k_ ≠ gb175 ∧ k_ ≠ gb176 ∧ k_ ≠ gb177 ∧ k_ ≠ gb181) ho0 (fun k_ hk_ => ⟨Or.elim hk_ (fun hs_ => ((Kd.R_types (Kd.R_types (Kd.R_types (Kd.R_types (HO_182001.out) BK175.out (by decide)) BK176.out (by decide)) BK177.out (by decide)) BK181.out (by decide)).1 k_ hs_.symm).1.1.1.1) (fun hn_ => (Nat.le_trans (below_size (zb w)) hn_)), Or.elim hk_ (fun hs_ => ((Kd.R_types (Kd.R_types (Kd.R_types (Kd.R_types (HO_182001.out) BK175.out (by decide)) BK176.out (by decide)) BK177.out (by decide)) BK181.out (by decide)).1 k_ hs_.symm).1.1.1.2) (fun hn_ => (Kd.freshB (g := gb175) (o := .cells #[.bool a0_0, .slice A0_1 l0_1.length c0_1] 84 (0, 0)) (zk BK175) k_ hn_)), Or.elim hk_ (fun hs_ => ((Kd.R_types (Kd.R_types (Kd.R_types (Kd.R_types (HO_182001.out) BK175.out (by decide)) BK176.out (by decide)) BK177.out (by decide)) BK181.out (by decide)).1 k_ hs_.symm).1.1.2) (fun hn_ => (Kd.freshB (g := gb176) (o := .cells #[.bool a1_0, .slice A1_1 l1_1.length c1_1] 84 (0, 0)) (zk BK176) k_ hn_)), Or.elim hk_ (fun hs_ => ((Kd.R_types (Kd.R_types (Kd.R_types (Kd.R_types (HO_182001.out) BK175.out (by decide)) BK176.out (by decide)) BK177.out (by decide)) BK181.out (by decide)).1 k_ hs_.symm).1.2) (fun hn_ => (Kd.freshB (g := gb177) (o := .cells #[.bool false, .slice none 0 0] 84 (0, 0)) (zk BK177) k_ hn_)), Or.elim hk_ (fun hs_ => ((Kd.R_types (Kd.R_types (Kd.R_types (Kd.R_types (HO_182001.out) BK175.out (by decide)) BK176.out (by decide)) BK177.out (by decide)) BK181.out (by decide)).1 k_ hs_.symm).2) (fun hn_ => (Kd.freshB (g := gb181) (o := .cells #[.bool (!(a0_0 == a1_0)), .slice Ao82 x182001_2.length co82] 84 (0, 0)) (zk BK181) k_ hn_))⟩)) (below_size (zb w))); replace HO_182001 := rb HO_182001 hb; replace BK175 := bb BK175 hb; replace BK176 := bb BK176 hb; replace BK177 := bb BK177 hb; replace BK181 := bb BK181 hb; replace HB := hs w hb; (try clear hb); (try clear ho0); have hnb84 := NB177_175.out; have hnc84 := NB175_177.out; have hnb85 := NB177_176.out; have hnc85 := NB176_177.out; obtain ⟨hcz86_0, hcz86_1, hfz86_0, hfz86_1⟩ := cz2 BK177; obtain ⟨Ao87, co87, eo87⟩ := Kd.V_slice HO199.out; subst eo87))
         refine bodyPost_ret (results_cell_row rfl _ _ gb177 84 #[.bool t196, .slice Ao87 t197.length co87] (0, 0) _ rfl (by (with_reducible repeat (first | refine blk_drewN ?_ _ | refine blk_drew ?_ | refine blk_alloc ?_ _)); refine blk_put (cs := #[.bool t196, .slice none 0 0]) ?_ 1 _ rfl; (with_reducible repeat (first | refine blk_drewN ?_ _ | refine blk_drew ?_ | refine blk_alloc ?_ _)); refine blk_put (cs := #[.bool false, .slice none 0 0]) ?_ 0 _ rfl; exact zk BK177) Tryz.underlying84 rfl (by kernel_rfl)) rfl ?_
         exact ⟨_, by first | rfl | (simp [errW_none, errW_some] <;> rfl) | (simp only [← hji3]; first | rfl | (simp [errW_none, errW_some] <;> rfl)) | (simp [*, errW_none, errW_some] <;> rfl), by (with_reducible repeat (first | apply Kd.V_alloc | apply Kd.V_drewN | apply Kd.V_drew)); exact Kd.V_mono (Kd.V_far (p := ⟨gb177, 1, none⟩) (Kd.V_far (p := ⟨gb177, 0, none⟩) (Kd.V_mono HO199.out (fun k_ hk => (⟨hk, hk.2.2.2.1⟩ : _ ∧ k_ ≠ gb177))) (fun _ hk => hk.2) (.bool t196)) (fun _ hk => hk.2) (.slice Ao87 t197.length co87)) (fun _ hk => hk.1.1), (zb w)⟩
  ·rw [if_neg c5] at H
   exact absurd H (by simp)
 ·rw [if_neg c4] at H
  exact absurd H (by simp)

end Go.Proofs.YthgefhnolmloiaaGreatDoor.P3
