-- Made by a program of this session out of the translation (wip/pp.py): functions, contracts.
import Derived.Test.YtaihfoihlbileaaDoorR4x0
import Derived.Test.YtaihfoihlbileaaDoorR4x5
namespace Go.Proofs.YtaihfoihlbileaaDoor.R4
open Go.RowKit Go.Proofs.YtaihfoihlbileaaDoorW.PrintWords Go.Proofs.YtaihfoihlbileaaDoorW.PrintLast Go.Proofs.YtaihfoihlbileaaDoorW.PrintMore
attribute [local go_sem] max2_int min2_int max_two min_two max_three min_three max_four min_four   -- for this text's walks alone
set_option linter.unusedVariables false
set_option linter.unusedSimpArgs false

/-! ### interchangeref1_TimesOf: function 47 -/
mutual
def interchangeref1_TimesOf.l0 : Nat → List Int → Int → Int → Bool → List Int → Bool → List Int → Option (Bool × List Int)
 | 0, _, _, _, _, _, _, _ => none
 | k + 1, x27, x28, x29, x326000, x326001, x331000, x331001 => if x29 < x28 then (if 0 ≤ x29 then (if x29 < (x27.length : Int) then (interchangeref1_TimesOf.l1 k x29 (rd x27 x29) x27 x28 x29 x326001 (x326001.length : Int) 0 x326000 x326001 x331000 x331001) else (none)) else (none)) else (interchangeref1_TimesOf.l2 k (wrap64 ((x331001.length : Int) - 1)) 0 x331000 x331001)
def interchangeref1_TimesOf.l1 : Nat → Int → Int → List Int → Int → Int → List Int → Int → Int → Bool → List Int → Bool → List Int → Option (Bool × List Int)
 | 0, _, _, _, _, _, _, _, _, _, _, _, _ => none
 | k + 1, x6, x7, x27, x28, x29, x35, x36, x37, x326000, x326001, x331000, x331001 => if x37 < x36 then (if 0 ≤ x37 then (if x37 < (x35.length : Int) then (if 0 ≤ (wrap64 (x6 + x37)) then (if (wrap64 (x6 + x37)) < (x331001.length : Int) then ((some (x331001.set ((wrap64 (x6 + x37)) : Int).toNat (wrap64 ((rd x331001 (wrap64 (x6 + x37))) + (wrap64 (x7 * (rd x35 x37))))) : List Int)).bind fun y334 => (if 0 ≤ (wrap64 ((wrap64 (x6 + x37)) + 1)) then (if (wrap64 ((wrap64 (x6 + x37)) + 1)) < (x331001.length : Int) then ((some (y334.set ((wrap64 ((wrap64 (x6 + x37)) + 1)) : Int).toNat (wrap64 ((rd y334 (wrap64 ((wrap64 (x6 + x37)) + 1))) + (wrap64 (Int.tdiv (rd y334 (wrap64 (x6 + x37))) 1000000)))) : List Int)).bind fun y337 => (interchangeref1_TimesOf.l1 k x6 x7 x27 x28 x29 x35 x36 (wrap64 (x37 + 1)) x326000 x326001 x331000 (y337.set ((wrap64 (x6 + x37)) : Int).toNat (Int.tmod (rd y337 (wrap64 (x6 + x37))) 1000000)))) else (none)) else (none))) else (none)) else (none)) else (none)) else (none)) else (interchangeref1_TimesOf.l0 k x27 x28 (wrap64 (x29 + 1)) x326000 x326001 x331000 x331001)
def interchangeref1_TimesOf.l2 : Nat → Int → Int → Bool → List Int → Option (Bool × List Int)
 | 0, _, _, _, _ => none
 | k + 1, x86, x87, x331000, x331001 => if x87 < x86 then (if 0 ≤ (wrap64 (x87 + 1)) then (if (wrap64 (x87 + 1)) < (x331001.length : Int) then (if 0 ≤ x87 then (if x87 < (x331001.length : Int) then ((some (x331001.set ((wrap64 (x87 + 1)) : Int).toNat (wrap64 ((rd x331001 (wrap64 (x87 + 1))) + (wrap64 (Int.tdiv (rd x331001 x87) 1000000)))) : List Int)).bind fun y342 => (interchangeref1_TimesOf.l2 k x86 (wrap64 (x87 + 1)) x331000 (y342.set (x87 : Int).toNat (Int.tmod (rd y342 x87) 1000000)))) else (none)) else (none)) else (none)) else (none)) else ((interchangeref1_trimmed.f k x331000 x331001).bind fun bt345 => (some (bt345.1, bt345.2)))
end
def interchangeref1_TimesOf.f (k : Nat) (a0_0 : Bool) (l0_1 : List Int) (a1_0 : Bool) (l1_1 : List Int) : Option (Bool × List Int) := if 0 ≤ (wrap64 ((wrap64 ((l0_1.length : Int) + (l1_1.length : Int))) + 1)) then (if (wrap64 ((wrap64 ((l0_1.length : Int) + (l1_1.length : Int))) + 1) : Int).toNat ≤ 35184372088832 then (interchangeref1_TimesOf.l0 k l0_1 (l0_1.length : Int) 0 a1_0 l1_1 (!(a0_0 == a1_0)) (List.replicate (wrap64 ((wrap64 ((l0_1.length : Int) + (l1_1.length : Int))) + 1) : Int).toNat 0)) else (none)) else (none)
theorem interchangeref1_TimesOf.mono_l : ∀ k, (∀ y0 y1 y2 y3 y4 y5 y6, LeO (interchangeref1_TimesOf.l0 k y0 y1 y2 y3 y4 y5 y6) (interchangeref1_TimesOf.l0 (k + 1) y0 y1 y2 y3 y4 y5 y6)) ∧ (∀ y0 y1 y2 y3 y4 y5 y6 y7 y8 y9 y10 y11, LeO (interchangeref1_TimesOf.l1 k y0 y1 y2 y3 y4 y5 y6 y7 y8 y9 y10 y11) (interchangeref1_TimesOf.l1 (k + 1) y0 y1 y2 y3 y4 y5 y6 y7 y8 y9 y10 y11)) ∧ (∀ y0 y1 y2 y3, LeO (interchangeref1_TimesOf.l2 k y0 y1 y2 y3) (interchangeref1_TimesOf.l2 (k + 1) y0 y1 y2 y3))
 | 0 => ⟨fun _ _ _ _ _ _ _ r h => by simp [interchangeref1_TimesOf.l0] at h, fun _ _ _ _ _ _ _ _ _ _ _ _ r h => by simp [interchangeref1_TimesOf.l1] at h, fun _ _ _ _ r h => by simp [interchangeref1_TimesOf.l2] at h⟩
 | k + 1 => by
  obtain ⟨ih0, ih1, ih2⟩ := interchangeref1_TimesOf.mono_l k
  refine ⟨?_, ?_, ?_⟩
  ·intro y0 y1 y2 y3 y4 y5 y6
   unfold interchangeref1_TimesOf.l0
   repeat' first | with_reducible first | exact ih0 _ _ _ _ _ _ _ | exact ih1 _ _ _ _ _ _ _ _ _ _ _ _ | exact ih2 _ _ _ _ | exact interchangeref1_trimmed.mono _ _ _ | exact lr _ | exact ln _ | refine li ?_ ?_ | refine lb ?_ fun _ => ?_ | exact ih0 _ _ _ _ _ _ _ | exact ih1 _ _ _ _ _ _ _ _ _ _ _ _ | exact ih2 _ _ _ _ | exact interchangeref1_trimmed.mono _ _ _ | exact ln _ | refine li ?_ ?_ | refine lb ?_ fun _ => ?_
  ·intro y0 y1 y2 y3 y4 y5 y6 y7 y8 y9 y10 y11
   unfold interchangeref1_TimesOf.l1
   repeat' first | with_reducible first | exact ih0 _ _ _ _ _ _ _ | exact ih1 _ _ _ _ _ _ _ _ _ _ _ _ | exact ih2 _ _ _ _ | exact interchangeref1_trimmed.mono _ _ _ | exact lr _ | exact ln _ | refine li ?_ ?_ | refine lb ?_ fun _ => ?_ | exact ih0 _ _ _ _ _ _ _ | exact ih1 _ _ _ _ _ _ _ _ _ _ _ _ | exact ih2 _ _ _ _ | exact interchangeref1_trimmed.mono _ _ _ | exact ln _ | refine li ?_ ?_ | refine lb ?_ fun _ => ?_
  ·intro y0 y1 y2 y3
   unfold interchangeref1_TimesOf.l2
   repeat' first | with_reducible first | exact ih0 _ _ _ _ _ _ _ | exact ih1 _ _ _ _ _ _ _ _ _ _ _ _ | exact ih2 _ _ _ _ | exact interchangeref1_trimmed.mono _ _ _ | exact lr _ | exact ln _ | refine li ?_ ?_ | refine lb ?_ fun _ => ?_ | exact ih0 _ _ _ _ _ _ _ | exact ih1 _ _ _ _ _ _ _ _ _ _ _ _ | exact ih2 _ _ _ _ | exact interchangeref1_trimmed.mono _ _ _ | exact ln _ | refine li ?_ ?_ | refine lb ?_ fun _ => ?_
theorem interchangeref1_TimesOf.mono : ∀ a0 a1 a2 a3 k, LeO (interchangeref1_TimesOf.f k a0 a1 a2 a3) (interchangeref1_TimesOf.f (k + 1) a0 a1 a2 a3) := by
 intro a0 a1 a2 a3 k
 obtain ⟨ih0, ih1, ih2⟩ := interchangeref1_TimesOf.mono_l k
 unfold interchangeref1_TimesOf.f
 repeat' first | with_reducible first | exact ih0 _ _ _ _ _ _ _ | exact ih1 _ _ _ _ _ _ _ _ _ _ _ _ | exact ih2 _ _ _ _ | exact interchangeref1_trimmed.mono _ _ _ | exact lr _ | exact ln _ | refine li ?_ ?_ | refine lb ?_ fun _ => ?_ | exact ih0 _ _ _ _ _ _ _ | exact ih1 _ _ _ _ _ _ _ _ _ _ _ _ | exact ih2 _ _ _ _ | exact interchangeref1_trimmed.mono _ _ _ | exact ln _ | refine li ?_ ?_ | refine lb ?_ fun _ => ?_
def interchangeref1_TimesOf.T1 : Bool × List (List Nat × List Nat) := (true, [([], []), ([0], [0]), ([], []), ([2], [2]), ([1, 3], [1, 3]), ([], []), ([5], [5]), ([6], [6]), ([], []), ([8], [8]), ([9], [9]), ([7, 10], [7, 10]), ([11], [11]), ([12, 12], [12]), ([4, 13], [4, 13]), ([], []), ([15, 14, 0, 1, 2, 3, 4, 5, 6, 7, 8, 9, 10, 11, 12, 13, 14, 15], [14, 15])])
def interchangeref1_TimesOf.B1 : List Nat := [0, 1, 0, 4, 15, 0, 32, 96, 0, 256, 768, 2016, 4064, 8160, 16383, 0, 65535]
theorem interchangeref1_TimesOf.tab1 : rtab .any (opsOf Tryd.f47 1) = interchangeref1_TimesOf.T1 := by kernel_rfl
theorem interchangeref1_TimesOf.bits1 : waitsOk interchangeref1_TimesOf.T1.2 interchangeref1_TimesOf.B1 = true := by kernel_rfl
def interchangeref1_TimesOf.T9 : Bool × List (List Nat × List Nat) := (true, [([], []), ([0], [0]), ([], []), ([], []), ([2, 3], [2, 3]), ([4], [4]), ([1, 5], [1, 5]), ([6], [6]), ([], []), ([8], [8]), ([], []), ([], []), ([10, 11], [10, 11]), ([9, 12], [9, 12]), ([13], [13]), ([14], [14]), ([7, 15], [7, 15]), ([1, 5, 0, 1, 2, 3, 4, 5, 6, 7, 8, 9, 10, 11, 12, 13, 14, 15, 16], [1, 5]), ([17, 16, 0, 1, 2, 3, 4, 5, 6, 7, 8, 9, 10, 11, 12, 13, 14, 15, 16], [16, 17])])
def interchangeref1_TimesOf.B9 : List Nat := [0, 1, 0, 0, 12, 28, 63, 127, 0, 256, 0, 0, 3072, 7936, 16128, 32512, 65535, 131071, 262143]
theorem interchangeref1_TimesOf.tab9 : rtab .any (opsOf Tryd.f47 9) = interchangeref1_TimesOf.T9 := by kernel_rfl
theorem interchangeref1_TimesOf.bits9 : waitsOk interchangeref1_TimesOf.T9.2 interchangeref1_TimesOf.B9 = true := by kernel_rfl
def interchangeref1_TimesOf.T16 : Bool × List (List Nat × List Nat) := (true, [([], []), ([0], [0]), ([], []), ([2], [2]), ([1, 3], [1, 3]), ([4], [4]), ([], []), ([6], [6]), ([], []), ([7, 8], [7, 8]), ([9], [9]), ([10], [10]), ([5, 11], [5, 11]), ([1, 3, 0, 1, 2, 3, 4, 5, 6, 7, 8, 9, 10, 11, 12], [1, 3]), ([13, 12, 0, 1, 2, 3, 4, 5, 6, 7, 8, 9, 10, 11, 12], [12, 13])])
def interchangeref1_TimesOf.B16 : List Nat := [0, 1, 0, 4, 15, 31, 0, 64, 0, 448, 960, 1984, 4095, 8191, 16383]
theorem interchangeref1_TimesOf.tab16 : rtab .any (opsOf Tryd.f47 16) = interchangeref1_TimesOf.T16 := by kernel_rfl
theorem interchangeref1_TimesOf.bits16 : waitsOk interchangeref1_TimesOf.T16.2 interchangeref1_TimesOf.B16 = true := by kernel_rfl
set_option maxHeartbeats 8000000 in
set_option maxRecDepth 100000 in
theorem interchangeref1_TimesOf.calls (k : Nat) (a0_0 : Bool) (A0_1 : Option Addr) (c0_1 : Nat) (l0_1 : List Int) (a1_0 : Bool) (A1_1 : Option Addr) (c1_1 : Nat) (l1_1 : List Int) (r1 : Bool) (r2 : List Int) (w : World) (hr0_1 : Kd.C (Kd.int .i64) w A0_1 l0_1.length l0_1) (hc0_1 : l0_1.length ≤ c0_1) (hr1_1 : Kd.C (Kd.int .i64) w A1_1 l1_1.length l1_1) (hc1_1 : l1_1.length ≤ c1_1) (h : interchangeref1_TimesOf.f k a0_0 l0_1 a1_0 l1_1 = some (r1, r2)) :
  Calls Tryd.prog 47 #[.agg #[.bool a0_0, .slice A0_1 l0_1.length c0_1], .agg #[.bool a1_0, .slice A1_1 l1_1.length c1_1]] w fun e w' => ∃ v1_ : Value, e = .returned (.agg #[.bool r1, v1_]) ∧ Kd.V (Kd.int .i64) 3 w' w.heap.size (fun k_ => (w.heap.size ≤ k_)) v1_ r2 ∧ Below w.heap.size w w' := by
 have hu40 := Tryd.underlying40
 have HR0_1 := Aside0.mk hr0_1
 have HC0_1 := Aside0.mk hc0_1
 clear hr0_1 hc0_1
 have HR1_1 := Aside0.mk hr1_1
 have HC1_1 := Aside0.mk hc1_1
 clear hr1_1 hc1_1
 have HB := Aside0.mk (Below.refl w.heap.size w)
 have H := h
 unfold interchangeref1_TimesOf.f at H
 clear h
 obtain ⟨ji3, hji3⟩ : ∃ j_ : Int, (wrap64 ((wrap64 ((l0_1.length : Int) + (l1_1.length : Int))) + 1)) = j_ := ⟨_, rfl⟩
 replace H : (if 0 ≤ (ji3) then (if (ji3 : Int).toNat ≤ 35184372088832 then (interchangeref1_TimesOf.l0 k l0_1 (l0_1.length : Int) 0 a1_0 l1_1 (!(a0_0 == a1_0)) (List.replicate (ji3 : Int).toNat 0)) else (none)) else (none)) = some (r1, r2) := by first | (rw [hji3] at H; exact H) | (simp only [hji3] at H ⊢; exact H)
 have hji3w : (IntKind.i64.wrap ((wrap64 ((l0_1.length : Int) + (l1_1.length : Int))) + 1)) = ji3 := (i64_w _).trans hji3
 by_cases c4 : 0 ≤ (ji3)
 ·rw [if_pos c4] at H
  have c4b0 := eq_true c4
  have c4b1 : decide (0 ≤ (ji3)) = true := decide_eq_true c4
  clear c4
  by_cases c5 : (ji3 : Int).toNat ≤ 35184372088832
  ·rw [if_pos c5] at H
   have c5b0 := eq_true c5
   have c5b1 : decide ((ji3 : Int).toNat ≤ 35184372088832) = true := decide_eq_true c5
   clear c5
   obtain ⟨y327, hy327⟩ : ∃ y_ : List Int, y_ = (List.replicate (ji3 : Int).toNat 0) := ⟨_, rfl⟩
   replace H : (interchangeref1_TimesOf.l0 k l0_1 (l0_1.length : Int) 0 a1_0 l1_1 (!(a0_0 == a1_0)) y327) = some (r1, r2) := by first | (rw [hy327]; with_reducible exact H) | (have H2_ := (Option.bind_some _ _).symm.trans H; rw [hy327]; with_reducible exact H2_) | (have H2_ := (Option.bind_some _ _).symm.trans H; with_reducible exact H2_) | with_reducible exact H | (rw [hy327]; exact H) | exact H
   have Ny327 := Aside0.mk hy327
   clear hy327
   have H' := Aside0.mk H
   clear H
   go_enter Tryd.func47, Tryd.ntmps47
   try go_wp2_with (first | ((with_reducible refine gD 2 rfl ?_); refine bx w 2 #[.bool a0_0, .slice A0_1 l0_1.length c0_1] 40 ?_; intro gb324 hg w6 hb BK324 GW324 GE324; clear HB; intro HB; clear hb hg) | ((with_reducible refine gD 3 rfl ?_); refine bx w 3 #[.bool a1_0, .slice A1_1 l1_1.length c1_1] 40 ?_; intro gb325 hg w7 hb BK325 GW325 GE325; clear HB; intro HB; have NB324_325 := nbl BK324 hg; have NB325_324 := nbr BK324 hg; replace BK324 := bb BK324 hb; clear hb hg) | ((with_reducible refine gD 4 rfl ?_); refine bx w 4 #[.bool false, .slice none 0 0] 40 ?_; intro gb326 hg w8 hb BK326 GW326 GE326; clear HB; intro HB; have NB324_326 := nbl BK324 hg; have NB326_324 := nbr BK324 hg; replace BK324 := bb BK324 hb; have NB325_326 := nbl BK325 hg; have NB326_325 := nbr BK325 hg; replace BK325 := bb BK325 hb; clear hb hg))
   have n0_ := Aside0.mk (blk_drew BK324.out)
   have n1_ := Aside0.mk (blk_drew BK325.out)
   have n2_ := Aside0.mk (blk_drew BK326.out)
   have n3_ := Aside0.mk (below_drew1 HB.out)
   clear BK324
   clear BK325
   clear BK326
   clear HB
   have BK324 := n0_
   have BK325 := n1_
   have BK326 := n2_
   have HB := n3_
   clear n0_ n1_ n2_ n3_
   refine start_ (n := 17) (S := fun w' => w'.cell? ⟨gb324, 0, none⟩ = some (.bool a0_0) ∧ w'.cell? ⟨gb324, 1, none⟩ = some (.slice A0_1 l0_1.length c0_1) ∧ w'.cell? ⟨gb325, 0, none⟩ = some (.bool a1_0) ∧ w'.cell? ⟨gb325, 1, none⟩ = some (.slice A1_1 l1_1.length c1_1)) (ds := []) (bm 17 0) (by kernel_rfl) rfl rfl ⟨(blk_cell BK324.out 0).trans rfl, (blk_cell BK324.out 1).trans rfl, (blk_cell BK325.out 0).trans rfl, (blk_cell BK325.out 1).trans rfl⟩ (fun hHeld => ?_); refine with_tabW interchangeref1_TimesOf.tab1 interchangeref1_TimesOf.bits1 (fun HT_ HW_ => ?_)
   generalize w8.drew = w9 at BK324 BK325 BK326 HB hHeld ⊢
   refine pu 0 11 (bm 17 1) HT_ ?_
   refine pu 2 13 (bm 17 5) HT_ ?_
   refine pu 5 16 (bm 17 37) HT_ ?_
   refine pu 8 19 (bm 17 293) HT_ ?_
   refine ta4 1 12 (bm 17 295) HT_ HW_ hHeld ?_
   refine ta4 3 14 (bm 17 303) HT_ HW_ hHeld ?_
   refine pu 4 15 (bm 17 319) HT_ ?_
   refine ta4 6 17 (bm 17 383) HT_ HW_ hHeld ?_
   refine pu 7 18 (bm 17 511) HT_ ?_
   refine ta4 9 20 (bm 17 1023) HT_ HW_ hHeld ?_
   refine pu 10 21 (bm 17 2047) HT_ ?_
   refine pu 11 22 (bm 17 4095) HT_ ?_
   refine pu 12 23 (bm 17 8191) HT_ ?_
   refine join_ (σ := Value × Nat) 1 (bm 17 65535) (fun s_ => [(24, s_.1), (5, .pointer (some ⟨s_.2, 0, none⟩)), (25, .agg #[.bool (!(a0_0 == a1_0)), s_.1])]) (fun s_ w' => (w'.cell? ⟨gb324, 0, none⟩ = some (.bool a0_0) ∧ w'.cell? ⟨gb324, 1, none⟩ = some (.slice A0_1 l0_1.length c0_1) ∧ w'.cell? ⟨gb325, 0, none⟩ = some (.bool a1_0) ∧ w'.cell? ⟨gb325, 1, none⟩ = some (.slice A1_1 l1_1.length c1_1)) ∧ (Kd.R (Kd.int .i64) 3 w' w.heap.size (fun k_ => (w.heap.size ≤ k_)) s_.1 y327) ∧ (w'.heap[gb324]? = some (.cells #[.bool a0_0, .slice A0_1 l0_1.length c0_1] 40 (0, 0))) ∧ (w'.heap[gb325]? = some (.cells #[.bool a1_0, .slice A1_1 l1_1.length c1_1] 40 (0, 0))) ∧ (w'.heap[gb326]? = some (.cells #[.bool false, .slice none 0 0] 40 (0, 0))) ∧ (w'.heap[s_.2]? = some (.cells #[.bool false, .slice none 0 0] 40 (0, 0))) ∧ (w.heap.size ≤ s_.2) ∧ (w.heap.size ≤ s_.2) ∧ (gb324 ≠ s_.2) ∧ (s_.2 ≠ gb324) ∧ (gb325 ≠ s_.2) ∧ (s_.2 ≠ gb325) ∧ (gb326 ≠ s_.2) ∧ (s_.2 ≠ gb326) ∧ (Below w.heap.size w w')) ?_ ?_
   rotate_left
   ·intro hCont
    refine two_ (i := 13) (j := 15) (Ni := some 24) (Nj := some 5) (bm 17 16383) (bm 17 40959) rfl rfl rfl rfl (two_of HT_.out (by kernel_rfl)) (by decide) (by decide) (fun K hK => ?_) (fun K hK => ?_)
    ·skip
     refine Kd.R_make_step (Kd.int .i64) _ 3 (by rfl) (N := 24) rfl 38 _ _ rfl ji3 rfl rfl Tryd.underlying38 (.int .i64 0) 8 info3 rfl (by decide) (by omega) 0 (ok := fun _ => True) (okp := fun _ => True) rfl (fun _ hk => hk) trivial (of_decide_eq_true (by assumption)) (Nat.le_trans (Nat.mul_le_mul_right _ (of_decide_eq_true (by assumption) : ji3.toNat ≤ 35184372088832)) (by omega)) (Below.refl _ _) (Nat.le_refl _) ?_
     intro v328 w10 ho11 hb hg_ hnew_
     clear hg_ hnew_
     (first | rw [← Ny327.out] at ho11 | (simp only [Int.reduceToNat] at ho11; rw [← Ny327.out] at ho11))
     have n0_ := Aside0.mk (Kd.R_lower (Kd.R_newM (M := fun k_ => (w.heap.size ≤ k_)) ho11 (below_size (zb w)) (fun k_ h_ => h_)) (below_size (zb w)))
     have n1_ := bb BK324 hb
     have n2_ := bb BK325 hb
     have n3_ := bb BK326 hb
     have n4_ := hs w hb
     clear BK324
     clear BK325
     clear BK326
     clear HB
     have HO329 := n0_
     have BK324 := n1_
     have BK325 := n2_
     have BK326 := n3_
     have HB := n4_
     clear n0_ n1_ n2_ n3_ n4_
     clear hb ho11
     obtain ⟨Ao12, co12, eo12⟩ := Kd.R_slice HO329.out
     (first | subst eo12 | (injection eo12 with f1_ f2_ f3_; have f4_ := f1_.symm; have f5_ := f3_.symm; clear f1_ f2_ f3_; subst f4_; subst f5_))
     refine hK.out _ _ ⟨(blk_cell BK324.out 0).trans rfl, (blk_cell BK324.out 1).trans rfl, (blk_cell BK325.out 0).trans rfl, (blk_cell BK325.out 1).trans rfl⟩ (fun hHeld => ?_)
     clear hK K
     refine norm_ (a' := ?_) ?_ ?_
     rotate_left
     ·show Act.put _ (some 24) _ = _
      simp only [sq, i64_w, i32_w]
      rfl
     refine pu 14 25 (bm 17 32767) HT_ ?_
     refine one_ (i := 15) (N := some 5) (bm 17 65535) rfl rfl (one_of HT_.out (by kernel_rfl)) (by decide) (fun K hK => ?_)
     refine box_step ?hg (N := 5) ?hd (cs := #[.bool false, .slice none 0 0]) (t := 40) ?hr ?_; (case hd => rfl); (case hg => rfl); (case hr => first | (go_simp; done) | (go_simp; rfl))
     intro gb330 hg w13 hbox hb
     have n0_ := rb HO329 hb
     have n1_ := bb BK324 hb
     have n2_ := bb BK325 hb
     have n3_ := bb BK326 hb
     have n4_ := hs w hb
     have n5_ := Aside0.mk (hbox)
     have n6_ := Aside0.mk ((by rw [hg]; exact (below_size (zb w)) : w.heap.size ≤ gb330))
     have n7_ := Aside0.mk ((by rw [hg]; exact (below_size (zb w)) : w.heap.size ≤ gb330))
     have n8_ := nbl BK324 hg
     have n9_ := nbr BK324 hg
     have n10_ := nbl BK325 hg
     have n11_ := nbr BK325 hg
     have n12_ := nbl BK326 hg
     have n13_ := nbr BK326 hg
     clear HO329
     clear BK324
     clear BK325
     clear BK326
     clear HB
     have HO329 := n0_
     have BK324 := n1_
     have BK325 := n2_
     have BK326 := n3_
     have HB := n4_
     have BK330 := n5_
     have GW330 := n6_
     have GE330 := n7_
     have NB324_330 := n8_
     have NB330_324 := n9_
     have NB325_330 := n10_
     have NB330_325 := n11_
     have NB326_330 := n12_
     have NB330_326 := n13_
     clear n0_ n1_ n2_ n3_ n4_ n5_ n6_ n7_ n8_ n9_ n10_ n11_ n12_ n13_
     clear hb hg
     refine hK.out _ _ ⟨(blk_cell BK324.out 0).trans rfl, (blk_cell BK324.out 1).trans rfl, (blk_cell BK325.out 0).trans rfl, (blk_cell BK325.out 1).trans rfl⟩ (fun hHeld => ?_)
     clear hK K
     refine norm_ (a' := ?_) ?_ ?_
     rotate_left
     ·show Act.put _ (some 5) _ = _
      simp only [sq, i64_w, i32_w]
      rfl
     exact norm_ (by simp only [putAll, Act.put, List.setIfInBounds_toArray, List.set_cons_zero, List.set_cons_succ]) (hCont (.slice Ao12 y327.length co12, gb330) _ ⟨hHeld, (by (with_reducible repeat (first | apply Kd.R_alloc | apply Kd.R_drewN | apply Kd.R_drew)); exact Kd.R_mono HO329.out (fun _ hk => hk.1)), (zk BK324), (zk BK325), (zk BK326), (zk BK330), GW330.out, GE330.out, NB324_330.out, NB330_324.out, NB325_330.out, NB330_325.out, NB326_330.out, NB330_326.out, (zb w)⟩)
    ·skip
     refine box_step ?hg (N := 5) ?hd (cs := #[.bool false, .slice none 0 0]) (t := 40) ?hr ?_; (case hd => rfl); (case hg => rfl); (case hr => first | (go_simp; done) | (go_simp; rfl))
     intro gb330 hg w10 hbox hb
     have n0_ := bb BK324 hb
     have n1_ := bb BK325 hb
     have n2_ := bb BK326 hb
     have n3_ := hs w hb
     have n4_ := Aside0.mk (hbox)
     have n5_ := Aside0.mk ((by rw [hg]; exact (below_size (zb w)) : w.heap.size ≤ gb330))
     have n6_ := Aside0.mk ((by rw [hg]; exact (below_size (zb w)) : w.heap.size ≤ gb330))
     have n7_ := nbl BK324 hg
     have n8_ := nbr BK324 hg
     have n9_ := nbl BK325 hg
     have n10_ := nbr BK325 hg
     have n11_ := nbl BK326 hg
     have n12_ := nbr BK326 hg
     clear BK324
     clear BK325
     clear BK326
     clear HB
     have BK324 := n0_
     have BK325 := n1_
     have BK326 := n2_
     have HB := n3_
     have BK330 := n4_
     have GW330 := n5_
     have GE330 := n6_
     have NB324_330 := n7_
     have NB330_324 := n8_
     have NB325_330 := n9_
     have NB330_325 := n10_
     have NB326_330 := n11_
     have NB330_326 := n12_
     clear n0_ n1_ n2_ n3_ n4_ n5_ n6_ n7_ n8_ n9_ n10_ n11_ n12_
     clear hb hg
     refine hK.out _ _ ⟨(blk_cell BK324.out 0).trans rfl, (blk_cell BK324.out 1).trans rfl, (blk_cell BK325.out 0).trans rfl, (blk_cell BK325.out 1).trans rfl⟩ (fun hHeld => ?_)
     clear hK K
     refine norm_ (a' := ?_) ?_ ?_
     rotate_left
     ·show Act.put _ (some 5) _ = _
      simp only [sq, i64_w, i32_w]
      rfl
     refine one_ (i := 13) (N := some 24) (bm 17 49151) rfl rfl (one_of HT_.out (by kernel_rfl)) (by decide) (fun K hK => ?_)
     refine Kd.R_make_step (Kd.int .i64) _ 3 (by rfl) (N := 24) rfl 38 _ _ rfl ji3 rfl rfl Tryd.underlying38 (.int .i64 0) 8 info3 rfl (by decide) (by omega) 0 (ok := fun _ => True) (okp := fun _ => True) rfl (fun _ hk => hk) trivial (of_decide_eq_true (by assumption)) (Nat.le_trans (Nat.mul_le_mul_right _ (of_decide_eq_true (by assumption) : ji3.toNat ≤ 35184372088832)) (by omega)) (Below.refl _ _) (Nat.le_refl _) ?_
     intro v328 w11 ho12 hb hg_ hnew_
     clear hg_ hnew_
     (first | rw [← Ny327.out] at ho12 | (simp only [Int.reduceToNat] at ho12; rw [← Ny327.out] at ho12))
     have n0_ := Aside0.mk (Kd.R_lower (Kd.R_newM (M := fun k_ => (w.heap.size ≤ k_)) ho12 (below_size (zb w)) (fun k_ h_ => h_)) (below_size (zb w)))
     have n1_ := bb BK324 hb
     have n2_ := bb BK325 hb
     have n3_ := bb BK326 hb
     have n4_ := bb BK330 hb
     have n5_ := hs w hb
     clear BK324
     clear BK325
     clear BK326
     clear BK330
     clear HB
     have HO329 := n0_
     have BK324 := n1_
     have BK325 := n2_
     have BK326 := n3_
     have BK330 := n4_
     have HB := n5_
     clear n0_ n1_ n2_ n3_ n4_ n5_
     clear hb ho12
     obtain ⟨Ao13, co13, eo13⟩ := Kd.R_slice HO329.out
     (first | subst eo13 | (injection eo13 with f1_ f2_ f3_; have f4_ := f1_.symm; have f5_ := f3_.symm; clear f1_ f2_ f3_; subst f4_; subst f5_))
     refine hK.out _ _ ⟨(blk_cell BK324.out 0).trans rfl, (blk_cell BK324.out 1).trans rfl, (blk_cell BK325.out 0).trans rfl, (blk_cell BK325.out 1).trans rfl⟩ (fun hHeld => ?_)
     clear hK K
     refine norm_ (a' := ?_) ?_ ?_
     rotate_left
     ·show Act.put _ (some 24) _ = _
      simp only [sq, i64_w, i32_w]
      rfl
     refine pu 14 25 (bm 17 65535) HT_ ?_
     exact norm_ (by simp only [putAll, Act.put, List.setIfInBounds_toArray, List.set_cons_zero, List.set_cons_succ]) (hCont (.slice Ao13 y327.length co13, gb330) _ ⟨hHeld, (by (with_reducible repeat (first | apply Kd.R_alloc | apply Kd.R_drewN | apply Kd.R_drew)); exact Kd.R_mono HO329.out (fun _ hk => hk.1)), (zk BK324), (zk BK325), (zk BK326), (zk BK330), GW330.out, GE330.out, NB324_330.out, NB330_324.out, NB325_330.out, NB330_325.out, NB326_330.out, NB330_326.out, (zb w)⟩)
   rintro ⟨v328, gb330⟩ w14 ⟨hS_, h0_, h1_, h2_, h3_, h4_, h5_, h6_, h7_, h8_, h9_, h10_, h11_, h12_, h13_⟩
   have n0_ : Aside0 (Kd.R (Kd.int .i64) 3 w14 w.heap.size (fun k_ => (w.heap.size ≤ k_)) v328 y327) := ⟨h0_⟩
   have n1_ : Aside0 (w14.heap[gb324]? = some (.cells #[.bool a0_0, .slice A0_1 l0_1.length c0_1] 40 (0, 0))) := ⟨h1_⟩
   have n2_ : Aside0 (w14.heap[gb325]? = some (.cells #[.bool a1_0, .slice A1_1 l1_1.length c1_1] 40 (0, 0))) := ⟨h2_⟩
   have n3_ : Aside0 (w14.heap[gb326]? = some (.cells #[.bool false, .slice none 0 0] 40 (0, 0))) := ⟨h3_⟩
   have n4_ : Aside0 (w14.heap[gb330]? = some (.cells #[.bool false, .slice none 0 0] 40 (0, 0))) := ⟨h4_⟩
   have n5_ : Aside0 (w.heap.size ≤ gb330) := ⟨h5_⟩
   have n6_ : Aside0 (w.heap.size ≤ gb330) := ⟨h6_⟩
   have n7_ : Aside0 (gb324 ≠ gb330) := ⟨h7_⟩
   have n8_ : Aside0 (gb330 ≠ gb324) := ⟨h8_⟩
   have n9_ : Aside0 (gb325 ≠ gb330) := ⟨h9_⟩
   have n10_ : Aside0 (gb330 ≠ gb325) := ⟨h10_⟩
   have n11_ : Aside0 (gb326 ≠ gb330) := ⟨h11_⟩
   have n12_ : Aside0 (gb330 ≠ gb326) := ⟨h12_⟩
   have n13_ : Aside0 (Below w.heap.size w w14) := ⟨h13_⟩
   clear BK324
   clear BK325
   clear BK326
   clear HB
   clear h0_ h1_ h2_ h3_ h4_ h5_ h6_ h7_ h8_ h9_ h10_ h11_ h12_ h13_
   have HO329 := n0_
   have BK324 := n1_
   have BK325 := n2_
   have BK326 := n3_
   have BK330 := n4_
   have GW330 := n5_
   have GE330 := n6_
   have NB324_330 := n7_
   have NB330_324 := n8_
   have NB325_330 := n9_
   have NB330_325 := n10_
   have NB326_330 := n11_
   have NB330_326 := n12_
   have HB := n13_
   clear n0_ n1_ n2_ n3_ n4_ n5_ n6_ n7_ n8_ n9_ n10_ n11_ n12_ n13_
   have hHeld : w14.cell? ⟨gb324, 0, none⟩ = some (.bool a0_0) ∧ w14.cell? ⟨gb324, 1, none⟩ = some (.slice A0_1 l0_1.length c0_1) ∧ w14.cell? ⟨gb325, 0, none⟩ = some (.bool a1_0) ∧ w14.cell? ⟨gb325, 1, none⟩ = some (.slice A1_1 l1_1.length c1_1) := hS_
   obtain ⟨Ao15, co15, eo15⟩ := Kd.R_slice HO329.out
   (first | subst eo15 | (injection eo15 with f1_ f2_ f3_; have f4_ := f1_.symm; have f5_ := f3_.symm; clear f1_ f2_ f3_; subst f4_; subst f5_))
   refine norm_ (a' := ?_) ?_ ?_
   rotate_left
   ·simp only [putAll, Act.put, List.setIfInBounds_toArray, List.set_cons_zero, List.set_cons_succ]
    rfl
   refine one_ (i := 16) (N := none) (bm 17 131071) rfl rfl (one_of HT_.out (by kernel_rfl)) (by decide) (fun K hK => ?_)
   have hs16 : w14.cell? ⟨gb330, 0, none⟩ = some (.bool false) := (blk_cell BK330.out 0).trans rfl
   have hfs16 := blk_frozen BK330.out 0
   have hns16_0 := NB324_330.out
   have hns16_1 := NB325_330.out
   have hns16_2 := NB326_330.out
   have hms16_0 := NB330_324.out
   have hms16_1 := NB330_325.out
   have hms16_2 := NB330_326.out
   have hs17 : w14.cell? ⟨gb330, 1, none⟩ = some (.slice none 0 0) := (blk_cell BK330.out 1).trans rfl
   have hfs17 := blk_frozen BK330.out 1
   have hns17_0 := NB324_330.out
   have hns17_1 := NB325_330.out
   have hns17_2 := NB326_330.out
   have hms17_0 := NB330_324.out
   have hms17_1 := NB330_325.out
   have hms17_2 := NB330_326.out
   refine skip_ (w1 := ?_) (by rfl) rfl ?_ ?_
   rotate_left
   ·go_simp
    rfl
   refine hK.out _ _ ⟨((cell_far (p := ⟨gb330, _, none⟩) NB324_330.out _).trans (((cell_far (p := ⟨gb330, _, none⟩) NB324_330.out _).trans (hHeld.1)))), ((cell_far (p := ⟨gb330, _, none⟩) NB324_330.out _).trans (((cell_far (p := ⟨gb330, _, none⟩) NB324_330.out _).trans (hHeld.2.1)))), ((cell_far (p := ⟨gb330, _, none⟩) NB325_330.out _).trans (((cell_far (p := ⟨gb330, _, none⟩) NB325_330.out _).trans (hHeld.2.2.1)))), ((cell_far (p := ⟨gb330, _, none⟩) NB325_330.out _).trans (((cell_far (p := ⟨gb330, _, none⟩) NB325_330.out _).trans (hHeld.2.2.2))))⟩ (fun hHeld => ?_)
   clear hK K
   refine done_ (done_of HT_.out (by kernel_rfl)) ?_
   have hnb18 := NB324_325.out
   have hnc18 := NB325_324.out
   have hnb19 := NB324_326.out
   have hnc19 := NB326_324.out
   have hnb20 := NB324_330.out
   have hnc20 := NB330_324.out
   obtain ⟨hcz21_0, hcz21_1, hfz21_0, hfz21_1⟩ := cz2 BK324
   try go_wp2
   try simp only [sq]
   go_loopg [29] k (fun kq v29 w' => ∃ (x29_1 : Int) (x331001_1 : List Int) (u331001 : Value), v29 = .int .i64 x29_1 ∧ Aside0 (interchangeref1_TimesOf.l0 kq l0_1 (l0_1.length : Int) x29_1 a1_0 l1_1 (!(a0_0 == a1_0)) x331001_1 = some (r1, r2)) ∧ Aside0 (kq ≤ k) ∧ Aside0 (Kd.R (Kd.int .i64) 3 w' w.heap.size (fun k_ => (w.heap.size ≤ k_)) u331001 x331001_1) ∧ Aside0 (w'.heap[gb324]? = some (.cells #[.bool a0_0, (.slice A0_1 l0_1.length c0_1)] 40 (0, 0))) ∧ Aside0 (w'.heap[gb325]? = some (.cells #[.bool a1_0, (.slice A1_1 l1_1.length c1_1)] 40 (0, 0))) ∧ Aside0 (w'.heap[gb326]? = some (.cells #[.bool false, (.slice none 0 0)] 40 (0, 0))) ∧ Aside0 (w'.heap[gb330]? = some (.cells #[.bool (!(a0_0 == a1_0)), u331001] 40 (0, 0))) ∧ Aside0 (Below w.heap.size w w'))
   case atStart => exact ⟨(0), (y327), (.slice Ao15 y327.length co15), ar, H', ⟨Nat.le_refl _⟩, ⟨by (with_reducible repeat (first | apply Kd.R_alloc | apply Kd.R_drewN | apply Kd.R_drew)); exact Kd.R_mono (Kd.R_far (p := ⟨gb330, 1, none⟩) (Kd.R_far (p := ⟨gb330, 0, none⟩) (Kd.R_types HO329.out BK330.out (by decide)) (fun _ hk => hk.2) (.bool (!(a0_0 == a1_0)))) (fun _ hk => hk.2) (.slice Ao15 y327.length co15)) (fun _ hk => hk.1)⟩, ⟨by (with_reducible repeat (first | refine blk_drewN ?_ _ | refine blk_drew ?_ | refine blk_alloc ?_ _)); refine blk_far ?_ NB324_330.out _; (with_reducible repeat (first | refine blk_drewN ?_ _ | refine blk_drew ?_ | refine blk_alloc ?_ _)); refine blk_far ?_ NB324_330.out _; exact zk BK324⟩, ⟨by (with_reducible repeat (first | refine blk_drewN ?_ _ | refine blk_drew ?_ | refine blk_alloc ?_ _)); refine blk_far ?_ NB325_330.out _; (with_reducible repeat (first | refine blk_drewN ?_ _ | refine blk_drew ?_ | refine blk_alloc ?_ _)); refine blk_far ?_ NB325_330.out _; exact zk BK325⟩, ⟨by (with_reducible repeat (first | refine blk_drewN ?_ _ | refine blk_drew ?_ | refine blk_alloc ?_ _)); refine blk_far ?_ NB326_330.out _; (with_reducible repeat (first | refine blk_drewN ?_ _ | refine blk_drew ?_ | refine blk_alloc ?_ _)); refine blk_far ?_ NB326_330.out _; exact zk BK326⟩, ⟨by (with_reducible repeat (first | refine blk_drewN ?_ _ | refine blk_drew ?_ | refine blk_alloc ?_ _)); refine blk_put (cs := #[.bool (!(a0_0 == a1_0)), .slice none 0 0]) ?_ 1 _ rfl; (with_reducible repeat (first | refine blk_drewN ?_ _ | refine blk_drew ?_ | refine blk_alloc ?_ _)); refine blk_put (cs := #[.bool false, .slice none 0 0]) ?_ 0 _ rfl; exact zk BK330⟩, ⟨(zb w)⟩⟩
   case round =>
    clear H'
    try clear c1
    try clear c2
    try clear p2
    try clear c4
    try clear c4b0
    try clear c4b1
    try clear c5
    try clear c5b0
    try clear c5b1
    try clear p6
    try clear c18
    try clear c19
    try clear c20
    try clear hcz21_0 hcz21_1 hfz21_0 hfz21_1
    obtain ⟨x29_1, x331001_1, u331001, rfl, HA, HK1, HO_331001, BK324, BK325, BK326, BK330, HB⟩ := hrel
    cases gk with
    | zero => exact absurd HA.out (by simp [interchangeref1_TimesOf.l0])
    | succ k1 =>
     have H := HA.out
     clear HA
     simp only [interchangeref1_TimesOf.l0] at H
     by_cases c22 : x29_1 < (l0_1.length : Int)
     ·rw [if_pos c22] at H
      have c22b0 : decide (x29_1 < (l0_1.length : Int)) = true := decide_eq_true c22
      clear c22
      by_cases c23 : 0 ≤ x29_1
      ·rw [if_pos c23] at H
       have c23b0 : decide (0 ≤ x29_1) = true := decide_eq_true c23
       clear c23
       by_cases c24 : x29_1 < (l0_1.length : Int)
       ·rw [if_pos c24] at H
        have c24b0 : decide (x29_1 < (l0_1.length : Int)) = true := decide_eq_true c24
        clear c24
        have H' := Aside0.mk H
        clear H
        have p331 : 0 ≤ (x29_1 : Int) := of_decide_eq_true (by assumption)
        have q331 : x29_1 < (l0_1.length : Int) := of_decide_eq_true (by assumption)
        obtain ⟨ad331, e331, hx331_0⟩ := Kd.at_int HR0_1.out x29_1 p331 q331
        cases e331
        replace hx331_0 := hz HB hx331_0
        replace p331 := eq_true p331
        replace q331 := eq_true q331
        have hnb25 := NB325_324.out
        have hnc25 := NB324_325.out
        have hnb26 := NB325_326.out
        have hnc26 := NB326_325.out
        have hnb27 := NB325_330.out
        have hnc27 := NB330_325.out
        obtain ⟨hcz28_0, hcz28_1, hfz28_0, hfz28_1⟩ := cz2 BK325
        go_wp2
        try simp only [sq]
        go_loopg [37] k1 (fun kq v37 w' => ∃ (x37_2 : Int) (x331001_2 : List Int) (u331001 : Value), v37 = .int .i64 x37_2 ∧ Aside0 (interchangeref1_TimesOf.l1 kq x29_1 (rd l0_1 x29_1) l0_1 (l0_1.length : Int) x29_1 l1_1 (l1_1.length : Int) x37_2 a1_0 l1_1 (!(a0_0 == a1_0)) x331001_2 = some (r1, r2)) ∧ Aside0 (kq ≤ k1) ∧ Aside0 (Kd.R (Kd.int .i64) 3 w' w.heap.size (fun k_ => (w.heap.size ≤ k_)) u331001 x331001_2) ∧ Aside0 (w'.heap[gb324]? = some (.cells #[.bool a0_0, (.slice (some ad331) l0_1.length c0_1)] 40 (0, 0))) ∧ Aside0 (w'.heap[gb325]? = some (.cells #[.bool a1_0, (.slice A1_1 l1_1.length c1_1)] 40 (0, 0))) ∧ Aside0 (w'.heap[gb326]? = some (.cells #[.bool false, (.slice none 0 0)] 40 (0, 0))) ∧ Aside0 (w'.heap[gb330]? = some (.cells #[.bool (!(a0_0 == a1_0)), u331001] 40 (0, 0))) ∧ Aside0 (Below w.heap.size w w'))
        case atStart => exact ⟨(0), (x331001_1), (u331001), ar, H', ⟨Nat.le_refl _⟩, ⟨zo HO_331001⟩, ⟨(zk BK324)⟩, ⟨(zk BK325)⟩, ⟨(zk BK326)⟩, ⟨(zk BK330)⟩, ⟨(zb w)⟩⟩
        case round =>
         clear H'
         try clear c1
         try clear c2
         try clear p2
         try clear p3
         try clear q3
         try clear hx3
         try clear c4
         try clear c4b0
         try clear c4b1
         try clear c5
         try clear c5b0
         try clear c5b1
         try clear p6
         try clear c18
         try clear c19
         try clear c20
         try clear c22
         try clear c22b0
         try clear c23
         try clear c23b0
         try clear c24
         try clear c24b0
         try clear c25
         try clear c26
         try clear c27
         try clear hcz21_0 hcz21_1
         try clear hcz28_0 hcz28_1
         try clear hfz21_0 hfz21_1
         try clear hfz28_0 hfz28_1
         try clear hx331_0
         try clear p2
         try clear p331
         try clear p6
         try clear q331
         obtain ⟨x37_2, x331001_2, u331001, rfl, HA, HK2, HO_331001, BK324, BK325, BK326, BK330, HB⟩ := hrel
         cases gk with
         | zero => exact absurd HA.out (by simp [interchangeref1_TimesOf.l1])
         | succ k2 =>
          have H := HA.out
          clear HA
          simp only [interchangeref1_TimesOf.l1] at H
          by_cases c29 : x37_2 < (l1_1.length : Int)
          ·rw [if_pos c29] at H
           have c29b0 : decide (x37_2 < (l1_1.length : Int)) = true := decide_eq_true c29
           clear c29
           by_cases c30 : 0 ≤ x37_2
           ·rw [if_pos c30] at H
            have c30b0 : decide (0 ≤ x37_2) = true := decide_eq_true c30
            clear c30
            by_cases c31 : x37_2 < (l1_1.length : Int)
            ·rw [if_pos c31] at H
             have c31b0 : decide (x37_2 < (l1_1.length : Int)) = true := decide_eq_true c31
             clear c31
             obtain ⟨ji32, hji32⟩ : ∃ j_ : Int, (wrap64 (x29_1 + x37_2)) = j_ := ⟨_, rfl⟩
             replace H : (if 0 ≤ (ji32) then (if (ji32) < (x331001_2.length : Int) then ((some (x331001_2.set ((ji32) : Int).toNat (wrap64 ((rd x331001_2 (ji32)) + (wrap64 ((rd l0_1 x29_1) * (rd l1_1 x37_2))))) : List Int)).bind fun y334 => (if 0 ≤ (wrap64 ((ji32) + 1)) then (if (wrap64 ((ji32) + 1)) < (x331001_2.length : Int) then ((some (y334.set ((wrap64 ((ji32) + 1)) : Int).toNat (wrap64 ((rd y334 (wrap64 ((ji32) + 1))) + (wrap64 (Int.tdiv (rd y334 (ji32)) 1000000)))) : List Int)).bind fun y337 => (interchangeref1_TimesOf.l1 k2 x29_1 (rd l0_1 x29_1) l0_1 (l0_1.length : Int) x29_1 l1_1 (l1_1.length : Int) (wrap64 (x37_2 + 1)) a1_0 l1_1 (!(a0_0 == a1_0)) (y337.set ((ji32) : Int).toNat (Int.tmod (rd y337 (ji32)) 1000000)))) else (none)) else (none))) else (none)) else (none)) = some (r1, r2) := by first | (rw [hji32] at H; exact H) | (simp only [hji32] at H ⊢; exact H)
             have hji32w : (IntKind.i64.wrap (x29_1 + x37_2)) = ji32 := (i64_w _).trans hji32
             by_cases c33 : 0 ≤ (ji32)
             ·rw [if_pos c33] at H
              have c33b0 : decide (0 ≤ (ji32)) = true := decide_eq_true c33
              clear c33
              by_cases c34 : (ji32) < (x331001_2.length : Int)
              ·rw [if_pos c34] at H
               have c34b0 : decide ((ji32) < (x331001_2.length : Int)) = true := decide_eq_true c34
               clear c34
               obtain ⟨y334, hy334⟩ : ∃ y_ : List Int, y_ = (x331001_2.set ((ji32) : Int).toNat (wrap64 ((rd x331001_2 (ji32)) + (wrap64 ((rd l0_1 x29_1) * (rd l1_1 x37_2)))))) := ⟨_, rfl⟩
               replace H : (if 0 ≤ (wrap64 ((ji32) + 1)) then (if (wrap64 ((ji32) + 1)) < (x331001_2.length : Int) then ((some (y334.set ((wrap64 ((ji32) + 1)) : Int).toNat (wrap64 ((rd y334 (wrap64 ((ji32) + 1))) + (wrap64 (Int.tdiv (rd y334 (ji32)) 1000000)))) : List Int)).bind fun y337 => (interchangeref1_TimesOf.l1 k2 x29_1 (rd l0_1 x29_1) l0_1 (l0_1.length : Int) x29_1 l1_1 (l1_1.length : Int) (wrap64 (x37_2 + 1)) a1_0 l1_1 (!(a0_0 == a1_0)) (y337.set ((ji32) : Int).toNat (Int.tmod (rd y337 (ji32)) 1000000)))) else (none)) else (none)) = some (r1, r2) := by first | (rw [hy334]; with_reducible exact H) | (have H2_ := (Option.bind_some _ _).symm.trans H; rw [hy334]; with_reducible exact H2_) | (have H2_ := (Option.bind_some _ _).symm.trans H; with_reducible exact H2_) | with_reducible exact H | (rw [hy334]; exact H) | exact H
               have Ny334 := Aside0.mk hy334
               clear hy334
               obtain ⟨ji36, hji36⟩ : ∃ j_ : Int, (wrap64 ((ji32) + 1)) = j_ := ⟨_, rfl⟩
               replace H : (if 0 ≤ (ji36) then (if (ji36) < (x331001_2.length : Int) then ((some (y334.set ((ji36) : Int).toNat (wrap64 ((rd y334 (ji36)) + (wrap64 (Int.tdiv (rd y334 (ji32)) 1000000)))) : List Int)).bind fun y337 => (interchangeref1_TimesOf.l1 k2 x29_1 (rd l0_1 x29_1) l0_1 (l0_1.length : Int) x29_1 l1_1 (l1_1.length : Int) (wrap64 (x37_2 + 1)) a1_0 l1_1 (!(a0_0 == a1_0)) (y337.set ((ji32) : Int).toNat (Int.tmod (rd y337 (ji32)) 1000000)))) else (none)) else (none)) = some (r1, r2) := by first | (rw [hji36] at H; exact H) | (simp only [hji36] at H ⊢; exact H)
               have hji36w : (IntKind.i64.wrap ((ji32) + 1)) = ji36 := (i64_w _).trans hji36
               by_cases c37 : 0 ≤ (ji36)
               ·rw [if_pos c37] at H
                have c37b0 : decide (0 ≤ (ji36)) = true := decide_eq_true c37
                clear c37
                by_cases c38 : (ji36) < (x331001_2.length : Int)
                ·rw [if_pos c38] at H
                 have c38b0 : decide ((ji36) < (x331001_2.length : Int)) = true := decide_eq_true c38
                 clear c38
                 obtain ⟨y337, hy337⟩ : ∃ y_ : List Int, y_ = (y334.set ((ji36) : Int).toNat (wrap64 ((rd y334 (ji36)) + (wrap64 (Int.tdiv (rd y334 (ji32)) 1000000))))) := ⟨_, rfl⟩
                 replace H : (interchangeref1_TimesOf.l1 k2 x29_1 (rd l0_1 x29_1) l0_1 (l0_1.length : Int) x29_1 l1_1 (l1_1.length : Int) (wrap64 (x37_2 + 1)) a1_0 l1_1 (!(a0_0 == a1_0)) (y337.set ((ji32) : Int).toNat (Int.tmod (rd y337 (ji32)) 1000000))) = some (r1, r2) := by first | (rw [hy337]; with_reducible exact H) | (have H2_ := (Option.bind_some _ _).symm.trans H; rw [hy337]; with_reducible exact H2_) | (have H2_ := (Option.bind_some _ _).symm.trans H; with_reducible exact H2_) | with_reducible exact H | (rw [hy337]; exact H) | exact H
                 have Ny337 := Aside0.mk hy337
                 clear hy337
                 obtain ⟨y339, hy339⟩ : ∃ y_ : List Int, y_ = (y337.set ((ji32) : Int).toNat (Int.tmod (rd y337 (ji32)) 1000000)) := ⟨_, rfl⟩
                 replace H : (interchangeref1_TimesOf.l1 k2 x29_1 (rd l0_1 x29_1) l0_1 (l0_1.length : Int) x29_1 l1_1 (l1_1.length : Int) (wrap64 (x37_2 + 1)) a1_0 l1_1 (!(a0_0 == a1_0)) y339) = some (r1, r2) := by first | (rw [hy339]; with_reducible exact H) | (have H2_ := (Option.bind_some _ _).symm.trans H; rw [hy339]; with_reducible exact H2_) | (have H2_ := (Option.bind_some _ _).symm.trans H; with_reducible exact H2_) | with_reducible exact H | (rw [hy339]; exact H) | exact H
                 have Ny339 := Aside0.mk hy339
                 clear hy339
                 have H' := Aside0.mk H
                 clear H
                 have p332 : 0 ≤ (x37_2 : Int) := of_decide_eq_true (by assumption)
                 have q332 : x37_2 < (l1_1.length : Int) := of_decide_eq_true (by assumption)
                 obtain ⟨ad332, e332, hx332_0⟩ := Kd.at_int HR1_1.out x37_2 p332 q332
                 cases e332
                 replace hx332_0 := hz HB hx332_0
                 replace p332 := eq_true p332
                 replace q332 := eq_true q332
                 have hnb41 := NB330_324.out
                 have hnc41 := NB324_330.out
                 have hnb42 := NB330_325.out
                 have hnc42 := NB325_330.out
                 have hnb43 := NB330_326.out
                 have hnc43 := NB326_330.out
                 obtain ⟨hcz44_0, hcz44_1, hfz44_0, hfz44_1⟩ := cz2 BK330
                 obtain ⟨Ao45, co45, eo45⟩ := Kd.R_slice HO_331001.out
                 subst eo45
                 have p333 : 0 ≤ ((ji32) : Int) := of_decide_eq_true (by assumption)
                 have q333 : (ji32) < (x331001_2.length : Int) := of_decide_eq_true (by assumption)
                 obtain ⟨ad333, e333, hx333_0⟩ := Kd.at_int (Kd.R_reads' HO_331001.out).2.2 (ji32) p333 q333
                 cases e333
                 replace p333 := eq_true p333
                 replace q333 := eq_true q333
                 have p35 : 0 ≤ ((ji32) : Int) := of_decide_eq_true (by assumption)
                 have q35 : ((ji32) : Int) < ((x331001_2.length : Int) : Int) := of_decide_eq_true (by assumption)
                 obtain ⟨go35, co35, eo35, gb35, gl35, cl35, HG35⟩ := Kd.R_form HO_331001.out (by omega)
                 (first | cases eo35 | (injection eo35 with ea_ en_ ec_; (first | subst ea_ | (injection ea_ with ea_; subst ea_)); subst ec_; clear en_))
                 have GB35 := Aside0.mk gb35
                 have GG35 := Aside0.mk HG35
                 clear gb35 gl35 HG35
                 (first | simp only [add_plain] at hx333_0 | skip)
                 obtain ⟨hx35_0, hf35_0⟩ := Kd.R_celln 0 HO_331001.out ((ji32) : Int) p35 q35
                 replace p35 := eq_true p35
                 replace q35 := eq_true q35
                 have HP46 := Kd.R_putg HO_331001.out ((ji32) : Int) (wrap64 ((rd x331001_2 (ji32)) + (wrap64 ((rd l0_1 x29_1) * (rd l1_1 x37_2)))))
                 try go_wp2_with (first | ((with_reducible refine gate_store (t := 3) (p := 53) rfl ?_); refine store_event (t := 3) (p := 53) (v := ?vo_w47) (w1 := (wr.setCell ⟨go35, ((ji32) : Int).toNat, none⟩ (.int .i64 (wrap64 ((rd x331001_2 (ji32)) + (wrap64 ((rd l0_1 x29_1) * (rd l1_1 x37_2)))))))) ?hg ?ho ?hn ?hr ?_; (case ho => rfl); (case hg => rfl); (case hn => rfl); (case hr => first | (go_simp; done) | (go_simp; rfl)); intro w47 hw; have hg : wr.grownBy w47 (some go35) := (by rw [hw]; exact HP46.2); have hp_ : Kd.R (Kd.int .i64) 3 w47 w.heap.size (fun k_ => (w.heap.size ≤ k_)) (.slice (some ⟨go35, 0, none⟩) x331001_2.length co45) y334 := (by rw [hw, Ny334.out]; exact HP46.1); clear HP46; replace BK324 := Aside0.mk (blk_grown (g := gb324) (o := .cells #[.bool a0_0, .slice (some ad331) l0_1.length c0_1] 40 (0, 0)) (zk BK324) hg (Kd.R_ne HO_331001.out BK324.out (by decide))); replace BK325 := Aside0.mk (blk_grown (g := gb325) (o := .cells #[.bool a1_0, .slice (some ad332) l1_1.length c1_1] 40 (0, 0)) (zk BK325) hg (Kd.R_ne HO_331001.out BK325.out (by decide))); replace BK326 := Aside0.mk (blk_grown (g := gb326) (o := .cells #[.bool false, .slice none 0 0] 40 (0, 0)) (zk BK326) hg (Kd.R_ne HO_331001.out BK326.out (by decide))); replace BK330 := Aside0.mk (blk_grown (g := gb330) (o := .cells #[.bool (!(a0_0 == a1_0)), .slice (some ⟨go35, 0, none⟩) x331001_2.length co45] 40 (0, 0)) (zk BK330) hg (Kd.R_ne HO_331001.out BK330.out (by decide))); replace HO_331001 := Aside0.mk (hp_); replace HB := Aside0.mk ((by rw [hw]; exact below_set (HB.out) GB35.out : Below w.heap.size w w47)); clear hg hw hp_))
                 have n0_ := Aside0.mk (Kd.R_drew HO_331001.out)
                 have n1_ := Aside0.mk (blk_drew BK324.out)
                 have n2_ := Aside0.mk (blk_drew BK325.out)
                 have n3_ := Aside0.mk (blk_drew BK326.out)
                 have n4_ := Aside0.mk (blk_drew BK330.out)
                 have n5_ := Aside0.mk (below_drew1 HB.out)
                 clear HO_331001
                 clear BK324
                 clear BK325
                 clear BK326
                 clear BK330
                 clear HB
                 have HO_331001 := n0_
                 have BK324 := n1_
                 have BK325 := n2_
                 have BK326 := n3_
                 have BK330 := n4_
                 have HB := n5_
                 clear n0_ n1_ n2_ n3_ n4_ n5_
                 have p335 : 0 ≤ ((ji36) : Int) := of_decide_eq_true (by assumption)
                 have q335 : (ji36) < (y334.length : Int) := (by have h_ : ((ji36) : Int) < ((x331001_2.length : Int) : Int) := of_decide_eq_true (by assumption); first | (have e_ := (Kd.R_reads' HO_331001.out).1; omega) | simpa only [Ny334.out, List.length_set] using h_)
                 have ql335 : (((ji36) : Int) < ((x331001_2.length : Int) : Int)) = True := eq_true (of_decide_eq_true (by assumption))
                 obtain ⟨ad335, e335, hx335_0⟩ := Kd.at_int (Kd.R_reads' HO_331001.out).2.2 (ji36) p335 q335
                 obtain rfl : (⟨go35, 0, none⟩ : Addr) = ad335 := (by injection e335)
                 (first | simp only [add_plain] at hx335_0 | simp only [add_at] at hx335_0 | simp only [Addr.add, Nat.zero_add] at hx335_0 | skip)
                 replace p335 := eq_true p335
                 replace q335 := eq_true q335
                 have p336 : 0 ≤ ((ji32) : Int) := of_decide_eq_true (by assumption)
                 have q336 : (ji32) < (y334.length : Int) := (by have h_ : ((ji32) : Int) < ((x331001_2.length : Int) : Int) := of_decide_eq_true (by assumption); first | (have e_ := (Kd.R_reads' HO_331001.out).1; omega) | simpa only [Ny334.out, List.length_set] using h_)
                 have ql336 : (((ji32) : Int) < ((x331001_2.length : Int) : Int)) = True := eq_true (of_decide_eq_true (by assumption))
                 obtain ⟨ad336, e336, hx336_0⟩ := Kd.at_int (Kd.R_reads' HO_331001.out).2.2 (ji32) p336 q336
                 obtain rfl : (⟨go35, 0, none⟩ : Addr) = ad336 := (by injection e336)
                 (first | simp only [add_plain] at hx336_0 | simp only [add_at] at hx336_0 | simp only [Addr.add, Nat.zero_add] at hx336_0 | skip)
                 replace p336 := eq_true p336
                 replace q336 := eq_true q336
                 have p39 : 0 ≤ ((ji36) : Int) := of_decide_eq_true (by assumption)
                 have q39 : ((ji36) : Int) < ((x331001_2.length : Int) : Int) := of_decide_eq_true (by assumption)
                 obtain ⟨hx39_0, hf39_0⟩ := Kd.R_celln 0 HO_331001.out ((ji36) : Int) p39 q39
                 replace p39 := eq_true p39
                 replace q39 := eq_true q39
                 have HP49 := Kd.R_putn HO_331001.out ((ji36) : Int) (wrap64 ((rd y334 (ji36)) + (wrap64 (Int.tdiv (rd y334 (ji32)) 1000000))))
                 rw [← Ny337.out] at HP49
                 have HQ49 := Aside0.mk HP49
                 clear HP49
                 refine start_ (n := 19) (S := fun w' => w'.cell? ⟨gb330, 0, none⟩ = some (.bool (!(a0_0 == a1_0))) ∧ w'.cell? ⟨gb330, 1, none⟩ = some (.slice (some ⟨go35, 0, none⟩) x331001_2.length co45) ∧ w'.cell? ⟨go35, ((ji36)).toNat, none⟩ = some (.int .i64 (rd y334 (ji36))) ∧ w'.cell? ⟨go35, ((ji32)).toNat, none⟩ = some (.int .i64 (rd y334 (ji32)))) (ds := [18]) (bm 19 0) (by kernel_rfl) rfl rfl ⟨(blk_cell BK330.out 0).trans rfl, (blk_cell BK330.out 1).trans rfl, hx335_0, hx336_0⟩ (fun hHeld => ?_); refine with_tabW interchangeref1_TimesOf.tab9 interchangeref1_TimesOf.bits9 (fun HT_ HW_ => ?_)
                 generalize w47.drew = w48 at HO_331001 BK324 BK325 BK326 BK330 HB HQ49 hf39_0 hx335_0 hx336_0 hx39_0 hHeld ⊢
                 refine pu 0 54 (bm 19 1) HT_ ?_
                 refine pu 2 56 (bm 19 5) HT_ ?_
                 refine pu 3 57 (bm 19 13) HT_ ?_
                 refine pu 4 58 (bm 19 29) HT_ ?_
                 refine pu 5 59 (bm 19 61) HT_ ?_
                 refine pu 8 62 (bm 19 317) HT_ ?_
                 refine pu 10 64 (bm 19 1341) HT_ ?_
                 refine pu 11 65 (bm 19 3389) HT_ ?_
                 refine pu 12 66 (bm 19 7485) HT_ ?_
                 refine ta4 1 55 (bm 19 7487) HT_ HW_ hHeld ?_
                 refine pu 6 60 (bm 19 7551) HT_ ?_
                 refine ta4 7 61 (bm 19 7679) HT_ HW_ hHeld ?_
                 refine ta4 9 63 (bm 19 8191) HT_ HW_ hHeld ?_
                 refine pu 13 67 (bm 19 16383) HT_ ?_
                 refine ta4 14 68 (bm 19 32767) HT_ HW_ hHeld ?_
                 refine pu 15 69 (bm 19 65535) HT_ ?_
                 refine pu 16 70 (bm 19 131071) HT_ ?_
                 refine pu 17 71 (bm 19 262143) HT_ ?_
                 refine last_ (i := 18) (N := none) (bm 19 524287) rfl rfl (one_of HT_.out (by kernel_rfl)) (by decide) (fun K hK => ?_)
                 refine skip_ (w1 := ?_) (by rfl) rfl ?_ ?_
                 rotate_left
                 ·go_simp
                  rfl
                 refine hK.out _ _ ?_
                 clear hK K
                 refine done_ (done_of HT_.out (by kernel_rfl)) ?_
                 have n0_ : Aside0 (Kd.R (Kd.int .i64) 3 (w48.setCell ⟨go35, ((ji36) : Int).toNat, none⟩ (.int .i64 (wrap64 ((rd y334 (ji36)) + (wrap64 (Int.tdiv (rd y334 (ji32)) 1000000)))))) w.heap.size (fun k_ => (w.heap.size ≤ k_)) (.slice (some ⟨go35, 0, none⟩) x331001_2.length co45) y337) := ⟨by (with_reducible repeat (first | apply Kd.R_alloc | apply Kd.R_drewN | apply Kd.R_drew)); exact HQ49.out⟩
                 have n1_ : Aside0 ((w48.setCell ⟨go35, ((ji36) : Int).toNat, none⟩ (.int .i64 (wrap64 ((rd y334 (ji36)) + (wrap64 (Int.tdiv (rd y334 (ji32)) 1000000)))))).heap[gb324]? = some (.cells #[.bool a0_0, .slice (some ad331) l0_1.length c0_1] 40 (0, 0))) := ⟨by (with_reducible repeat (first | refine blk_drewN ?_ _ | refine blk_drew ?_ | refine blk_alloc ?_ _)); refine blk_far ?_ (by have h_ := Kd.R_ne HO_331001.out BK324.out (by decide); intro e_; exact h_ (by rw [e_]; rfl)) _; exact zk BK324⟩
                 have n2_ : Aside0 ((w48.setCell ⟨go35, ((ji36) : Int).toNat, none⟩ (.int .i64 (wrap64 ((rd y334 (ji36)) + (wrap64 (Int.tdiv (rd y334 (ji32)) 1000000)))))).heap[gb325]? = some (.cells #[.bool a1_0, .slice (some ad332) l1_1.length c1_1] 40 (0, 0))) := ⟨by (with_reducible repeat (first | refine blk_drewN ?_ _ | refine blk_drew ?_ | refine blk_alloc ?_ _)); refine blk_far ?_ (by have h_ := Kd.R_ne HO_331001.out BK325.out (by decide); intro e_; exact h_ (by rw [e_]; rfl)) _; exact zk BK325⟩
                 have n3_ : Aside0 ((w48.setCell ⟨go35, ((ji36) : Int).toNat, none⟩ (.int .i64 (wrap64 ((rd y334 (ji36)) + (wrap64 (Int.tdiv (rd y334 (ji32)) 1000000)))))).heap[gb326]? = some (.cells #[.bool false, .slice none 0 0] 40 (0, 0))) := ⟨by (with_reducible repeat (first | refine blk_drewN ?_ _ | refine blk_drew ?_ | refine blk_alloc ?_ _)); refine blk_far ?_ (by have h_ := Kd.R_ne HO_331001.out BK326.out (by decide); intro e_; exact h_ (by rw [e_]; rfl)) _; exact zk BK326⟩
                 have n4_ : Aside0 ((w48.setCell ⟨go35, ((ji36) : Int).toNat, none⟩ (.int .i64 (wrap64 ((rd y334 (ji36)) + (wrap64 (Int.tdiv (rd y334 (ji32)) 1000000)))))).heap[gb330]? = some (.cells #[.bool (!(a0_0 == a1_0)), .slice (some ⟨go35, 0, none⟩) x331001_2.length co45] 40 (0, 0))) := ⟨by (with_reducible repeat (first | refine blk_drewN ?_ _ | refine blk_drew ?_ | refine blk_alloc ?_ _)); refine blk_far ?_ (by have h_ := Kd.R_ne HO_331001.out BK330.out (by decide); intro e_; exact h_ (by rw [e_]; rfl)) _; exact zk BK330⟩
                 have n5_ : Aside0 (Below w.heap.size w (w48.setCell ⟨go35, ((ji36) : Int).toNat, none⟩ (.int .i64 (wrap64 ((rd y334 (ji36)) + (wrap64 (Int.tdiv (rd y334 (ji32)) 1000000))))))) := ⟨(zb w)⟩
                 (try clear HO_331001)
                 (try clear BK324)
                 (try clear BK325)
                 (try clear BK326)
                 (try clear BK330)
                 (try clear HB)
                 generalize (w48.setCell ⟨go35, ((ji36) : Int).toNat, none⟩ (.int .i64 (wrap64 ((rd y334 (ji36)) + (wrap64 (Int.tdiv (rd y334 (ji32)) 1000000)))))) = w50 at n0_ n1_ n2_ n3_ n4_ n5_ ⊢
                 have HO_331001 := n0_
                 have BK324 := n1_
                 have BK325 := n2_
                 have BK326 := n3_
                 have BK330 := n4_
                 have HB := n5_
                 clear n0_ n1_ n2_ n3_ n4_ n5_
                 obtain ⟨hcz51_0, hcz51_1, hfz51_0, hfz51_1⟩ := cz2 BK330
                 have p338 : 0 ≤ ((ji32) : Int) := of_decide_eq_true (by assumption)
                 have q338 : (ji32) < (y337.length : Int) := (by have h_ : ((ji32) : Int) < ((x331001_2.length : Int) : Int) := of_decide_eq_true (by assumption); first | (have e_ := (Kd.R_reads' HO_331001.out).1; omega) | simpa only [Ny334.out, Ny337.out, List.length_set] using h_)
                 have ql338 : (((ji32) : Int) < ((x331001_2.length : Int) : Int)) = True := eq_true (of_decide_eq_true (by assumption))
                 obtain ⟨ad338, e338, hx338_0⟩ := Kd.at_int (Kd.R_reads' HO_331001.out).2.2 (ji32) p338 q338
                 obtain rfl : (⟨go35, 0, none⟩ : Addr) = ad338 := (by injection e338)
                 (first | simp only [add_plain] at hx338_0 | simp only [add_at] at hx338_0 | simp only [Addr.add, Nat.zero_add] at hx338_0 | skip)
                 replace p338 := eq_true p338
                 replace q338 := eq_true q338
                 have p40 : 0 ≤ ((ji32) : Int) := of_decide_eq_true (by assumption)
                 have q40 : ((ji32) : Int) < ((x331001_2.length : Int) : Int) := of_decide_eq_true (by assumption)
                 obtain ⟨hx40_0, hf40_0⟩ := Kd.R_celln 0 HO_331001.out ((ji32) : Int) p40 q40
                 replace p40 := eq_true p40
                 replace q40 := eq_true q40
                 obtain ⟨hy52_, hz52_⟩ := Kd.R_celln 0 HO_331001.out ((ji32) : Int) (of_decide_eq_true (by assumption)) (of_decide_eq_true (by assumption))
                 have HP52 := Kd.R_putg HO_331001.out ((ji32) : Int) (Int.tmod (rd y337 (ji32)) 1000000)
                 try go_wp2_with (first | ((with_reducible refine gate_store (t := 3) (p := 80) rfl ?_); refine store_event (t := 3) (p := 80) (v := ?vo_w53) (w1 := (w50.setCell ⟨go35, ((ji32) : Int).toNat, none⟩ (.int .i64 (Int.tmod (rd y337 (ji32)) 1000000)))) ?hg ?ho ?hn ?hr ?_; (case ho => rfl); (case hg => rfl); (case hn => rfl); (case hr => first | (go_simp; done) | (go_simp; rfl)); intro w53 hw; have hg : w50.grownBy w53 (some go35) := (by rw [hw]; exact HP52.2); have hp_ : Kd.R (Kd.int .i64) 3 w53 w.heap.size (fun k_ => (w.heap.size ≤ k_)) (.slice (some ⟨go35, 0, none⟩) x331001_2.length co45) y339 := (by rw [hw, Ny339.out]; exact HP52.1); clear HP52; replace BK324 := Aside0.mk (blk_grown (g := gb324) (o := .cells #[.bool a0_0, .slice (some ad331) l0_1.length c0_1] 40 (0, 0)) (zk BK324) hg (Kd.R_ne HO_331001.out BK324.out (by decide))); replace BK325 := Aside0.mk (blk_grown (g := gb325) (o := .cells #[.bool a1_0, .slice (some ad332) l1_1.length c1_1] 40 (0, 0)) (zk BK325) hg (Kd.R_ne HO_331001.out BK325.out (by decide))); replace BK326 := Aside0.mk (blk_grown (g := gb326) (o := .cells #[.bool false, .slice none 0 0] 40 (0, 0)) (zk BK326) hg (Kd.R_ne HO_331001.out BK326.out (by decide))); replace BK330 := Aside0.mk (blk_grown (g := gb330) (o := .cells #[.bool (!(a0_0 == a1_0)), .slice (some ⟨go35, 0, none⟩) x331001_2.length co45] 40 (0, 0)) (zk BK330) hg (Kd.R_ne HO_331001.out BK330.out (by decide))); replace HO_331001 := Aside0.mk (hp_); replace HB := Aside0.mk ((by rw [hw]; exact below_set (HB.out) GB35.out : Below w.heap.size w w53)); clear hg hw hp_))
                 go_roundg k2
                 case measure => have := HK1.out; have := HK2.out; omega
                 case rel => exact ⟨(wrap64 (x37_2 + 1)), (y339), (.slice (some ⟨go35, 0, none⟩) x331001_2.length co45), ar, H', ⟨by have := HK1.out; have := HK2.out; omega⟩, ⟨zo HO_331001⟩, ⟨(zk BK324)⟩, ⟨(zk BK325)⟩, ⟨(zk BK326)⟩, ⟨(zk BK330)⟩, ⟨(zb w)⟩⟩
                ·rw [if_neg c38] at H
                 exact absurd H (by simp)
               ·rw [if_neg c37] at H
                exact absurd H (by simp)
              ·rw [if_neg c34] at H
               exact absurd H (by simp)
             ·rw [if_neg c33] at H
              exact absurd H (by simp)
            ·rw [if_neg c31] at H
             exact absurd H (by simp)
           ·rw [if_neg c30] at H
            exact absurd H (by simp)
          ·rw [if_neg c29] at H
           have c29b0 : decide (x37_2 < (l1_1.length : Int)) = false := decide_eq_false c29
           clear c29
           have H' := Aside0.mk H
           clear H
           go_wp2
           go_roundg k2
           case measure => have := HK1.out; have := HK2.out; omega
           case rel => exact ⟨(wrap64 (x29_1 + 1)), (x331001_2), (u331001), ar, H', ⟨by have := HK1.out; have := HK2.out; omega⟩, ⟨zo HO_331001⟩, ⟨(zk BK324)⟩, ⟨(zk BK325)⟩, ⟨(zk BK326)⟩, ⟨(zk BK330)⟩, ⟨(zb w)⟩⟩
       ·rw [if_neg c24] at H
        exact absurd H (by simp)
      ·rw [if_neg c23] at H
       exact absurd H (by simp)
     ·rw [if_neg c22] at H
      have c22b0 : decide (x29_1 < (l0_1.length : Int)) = false := decide_eq_false c22
      clear c22
      have H' := Aside0.mk H
      clear H
      have hnb54 := NB330_324.out
      have hnc54 := NB324_330.out
      have hnb55 := NB330_325.out
      have hnc55 := NB325_330.out
      have hnb56 := NB330_326.out
      have hnc56 := NB326_330.out
      obtain ⟨hcz57_0, hcz57_1, hfz57_0, hfz57_1⟩ := cz2 BK330
      obtain ⟨Ao58, co58, eo58⟩ := Kd.R_slice HO_331001.out
      subst eo58
      go_wp2
      try simp only [sq]
      go_loopg [87] k1 (fun kq v87 w' => ∃ (x87_2 : Int) (x331001_2 : List Int) (u331001 : Value), v87 = .int .i64 x87_2 ∧ Aside0 (interchangeref1_TimesOf.l2 kq (wrap64 ((x331001_1.length : Int) - 1)) x87_2 (!(a0_0 == a1_0)) x331001_2 = some (r1, r2)) ∧ Aside0 (kq ≤ k1) ∧ Aside0 (Kd.R (Kd.int .i64) 3 w' w.heap.size (fun k_ => (w.heap.size ≤ k_)) u331001 x331001_2) ∧ Aside0 (w'.heap[gb324]? = some (.cells #[.bool a0_0, (.slice A0_1 l0_1.length c0_1)] 40 (0, 0))) ∧ Aside0 (w'.heap[gb325]? = some (.cells #[.bool a1_0, (.slice A1_1 l1_1.length c1_1)] 40 (0, 0))) ∧ Aside0 (w'.heap[gb326]? = some (.cells #[.bool false, (.slice none 0 0)] 40 (0, 0))) ∧ Aside0 (w'.heap[gb330]? = some (.cells #[.bool (!(a0_0 == a1_0)), u331001] 40 (0, 0))) ∧ Aside0 (Below w.heap.size w w'))
      case atStart => exact ⟨(0), (x331001_1), (.slice Ao58 x331001_1.length co58), ar, H', ⟨Nat.le_refl _⟩, ⟨zo HO_331001⟩, ⟨(zk BK324)⟩, ⟨(zk BK325)⟩, ⟨(zk BK326)⟩, ⟨(zk BK330)⟩, ⟨(zb w)⟩⟩
      case round =>
       clear H'
       try clear c1
       try clear c2
       try clear p2
       try clear c3
       try clear p3
       try clear q3
       try clear hx3
       try clear hf3
       try clear c4
       try clear c4b0
       try clear c4b1
       try clear p4
       try clear q4
       try clear hx4
       try clear hf4
       try clear c5
       try clear c5b0
       try clear c5b1
       try clear p6
       try clear c18
       try clear c19
       try clear c20
       try clear c22
       try clear c22b0
       try clear c23
       try clear c23b0
       try clear c24
       try clear c24b0
       try clear c25
       try clear c26
       try clear c27
       try clear c29
       try clear c29b0
       try clear c30
       try clear c30b0
       try clear c31
       try clear c31b0
       try clear c33
       try clear c33b0
       try clear p33
       try clear q33
       try clear hx33
       try clear c34
       try clear c34b0
       try clear p35
       try clear q35
       try clear hx35
       try clear hf35
       try clear c37
       try clear c37b0
       try clear c38
       try clear c38b0
       try clear p39
       try clear q39
       try clear hx39
       try clear hf39
       try clear p40
       try clear q40
       try clear hx40
       try clear hf40
       try clear c41
       try clear c42
       try clear c43
       try clear c54
       try clear c55
       try clear c56
       try clear hcz21_0 hcz21_1
       try clear hcz28_0 hcz28_1
       try clear hcz44_0 hcz44_1
       try clear hcz51_0 hcz51_1
       try clear hcz57_0 hcz57_1
       try clear hfz21_0 hfz21_1
       try clear hfz28_0 hfz28_1
       try clear hfz44_0 hfz44_1
       try clear hfz51_0 hfz51_1
       try clear hfz57_0 hfz57_1
       try clear hx331_0
       try clear hx332_0
       try clear hx333_0
       try clear hx335_0
       try clear hx336_0
       try clear hx338_0
       try clear hx35_0
       try clear hx39_0
       try clear hx40_0
       try clear p2
       try clear p3
       try clear p331
       try clear p332
       try clear p333
       try clear p335
       try clear p336
       try clear p338
       try clear p35
       try clear p39
       try clear p40
       try clear p6
       try clear q3
       try clear q331
       try clear q332
       try clear q333
       try clear q335
       try clear q336
       try clear q338
       try clear q35
       try clear q39
       try clear q40
       obtain ⟨x87_2, x331001_2, u331001, rfl, HA, HK2, HO_331001, BK324, BK325, BK326, BK330, HB⟩ := hrel
       cases gk with
       | zero => exact absurd HA.out (by simp [interchangeref1_TimesOf.l2])
       | succ k2 =>
        have H := HA.out
        clear HA
        simp only [interchangeref1_TimesOf.l2] at H
        by_cases c59 : x87_2 < (wrap64 ((x331001_1.length : Int) - 1))
        ·rw [if_pos c59] at H
         have c59b0 : decide (x87_2 < (wrap64 ((x331001_1.length : Int) - 1))) = true := decide_eq_true c59
         clear c59
         obtain ⟨ji60, hji60⟩ : ∃ j_ : Int, (wrap64 (x87_2 + 1)) = j_ := ⟨_, rfl⟩
         replace H : (if 0 ≤ (ji60) then (if (ji60) < (x331001_2.length : Int) then (if 0 ≤ x87_2 then (if x87_2 < (x331001_2.length : Int) then ((some (x331001_2.set ((ji60) : Int).toNat (wrap64 ((rd x331001_2 (ji60)) + (wrap64 (Int.tdiv (rd x331001_2 x87_2) 1000000)))) : List Int)).bind fun y342 => (interchangeref1_TimesOf.l2 k2 (wrap64 ((x331001_1.length : Int) - 1)) ji60 (!(a0_0 == a1_0)) (y342.set (x87_2 : Int).toNat (Int.tmod (rd y342 x87_2) 1000000)))) else (none)) else (none)) else (none)) else (none)) = some (r1, r2) := by first | (rw [hji60] at H; exact H) | (simp only [hji60] at H ⊢; exact H)
         have hji60w : (IntKind.i64.wrap (x87_2 + 1)) = ji60 := (i64_w _).trans hji60
         by_cases c61 : 0 ≤ (ji60)
         ·rw [if_pos c61] at H
          have c61b0 : decide (0 ≤ (ji60)) = true := decide_eq_true c61
          clear c61
          by_cases c62 : (ji60) < (x331001_2.length : Int)
          ·rw [if_pos c62] at H
           have c62b0 : decide ((ji60) < (x331001_2.length : Int)) = true := decide_eq_true c62
           clear c62
           by_cases c63 : 0 ≤ x87_2
           ·rw [if_pos c63] at H
            have c63b0 : decide (0 ≤ x87_2) = true := decide_eq_true c63
            clear c63
            by_cases c64 : x87_2 < (x331001_2.length : Int)
            ·rw [if_pos c64] at H
             have c64b0 : decide (x87_2 < (x331001_2.length : Int)) = true := decide_eq_true c64
             clear c64
             obtain ⟨y342, hy342⟩ : ∃ y_ : List Int, y_ = (x331001_2.set ((ji60) : Int).toNat (wrap64 ((rd x331001_2 (ji60)) + (wrap64 (Int.tdiv (rd x331001_2 x87_2) 1000000))))) := ⟨_, rfl⟩
             replace H : (interchangeref1_TimesOf.l2 k2 (wrap64 ((x331001_1.length : Int) - 1)) ji60 (!(a0_0 == a1_0)) (y342.set (x87_2 : Int).toNat (Int.tmod (rd y342 x87_2) 1000000))) = some (r1, r2) := by first | (rw [hy342]; with_reducible exact H) | (have H2_ := (Option.bind_some _ _).symm.trans H; rw [hy342]; with_reducible exact H2_) | (have H2_ := (Option.bind_some _ _).symm.trans H; with_reducible exact H2_) | with_reducible exact H | (rw [hy342]; exact H) | exact H
             have Ny342 := Aside0.mk hy342
             clear hy342
             obtain ⟨y344, hy344⟩ : ∃ y_ : List Int, y_ = (y342.set (x87_2 : Int).toNat (Int.tmod (rd y342 x87_2) 1000000)) := ⟨_, rfl⟩
             replace H : (interchangeref1_TimesOf.l2 k2 (wrap64 ((x331001_1.length : Int) - 1)) ji60 (!(a0_0 == a1_0)) y344) = some (r1, r2) := by first | (rw [hy344]; with_reducible exact H) | (have H2_ := (Option.bind_some _ _).symm.trans H; rw [hy344]; with_reducible exact H2_) | (have H2_ := (Option.bind_some _ _).symm.trans H; with_reducible exact H2_) | with_reducible exact H | (rw [hy344]; exact H) | exact H
             have Ny344 := Aside0.mk hy344
             clear hy344
             have H' := Aside0.mk H
             clear H
             try go_wp2
             have n0_ := Aside0.mk (Kd.R_drew HO_331001.out)
             have n1_ := Aside0.mk (blk_drew BK324.out)
             have n2_ := Aside0.mk (blk_drew BK325.out)
             have n3_ := Aside0.mk (blk_drew BK326.out)
             have n4_ := Aside0.mk (blk_drew BK330.out)
             have n5_ := Aside0.mk (below_drew1 HB.out)
             clear HO_331001
             clear BK324
             clear BK325
             clear BK326
             clear BK330
             clear HB
             have HO_331001 := n0_
             have BK324 := n1_
             have BK325 := n2_
             have BK326 := n3_
             have BK330 := n4_
             have HB := n5_
             clear n0_ n1_ n2_ n3_ n4_ n5_
             obtain ⟨Ao68, co68, eo68⟩ := Kd.R_slice HO_331001.out
             (first | subst eo68 | (injection eo68 with f1_ f2_ f3_; have f4_ := f1_.symm; have f5_ := f3_.symm; clear f1_ f2_ f3_; subst f4_; subst f5_))
             have p340 : 0 ≤ ((ji60) : Int) := of_decide_eq_true (by assumption)
             have q340 : (ji60) < (x331001_2.length : Int) := of_decide_eq_true (by assumption)
             obtain ⟨ad340, e340, hx340_0⟩ := Kd.at_int (Kd.R_reads' HO_331001.out).2.2 (ji60) p340 q340
             cases e340
             replace p340 := eq_true p340
             replace q340 := eq_true q340
             have p341 : 0 ≤ (x87_2 : Int) := of_decide_eq_true (by assumption)
             have q341 : x87_2 < (x331001_2.length : Int) := of_decide_eq_true (by assumption)
             obtain ⟨ad341, e341, hx341_0⟩ := Kd.at_int (Kd.R_reads' HO_331001.out).2.2 x87_2 p341 q341
             obtain rfl : ad340 = ad341 := (by injection e341)
             replace p341 := eq_true p341
             replace q341 := eq_true q341
             have p65 : 0 ≤ ((ji60) : Int) := of_decide_eq_true (by assumption)
             have q65 : ((ji60) : Int) < ((x331001_2.length : Int) : Int) := of_decide_eq_true (by assumption)
             obtain ⟨go65, co65, eo65, gb65, gl65, cl65, HG65⟩ := Kd.R_form HO_331001.out (by omega)
             (first | cases eo65 | (injection eo65 with ea_ en_ ec_; (first | subst ea_ | (injection ea_ with ea_; subst ea_)); subst ec_; clear en_))
             have GB65 := Aside0.mk gb65
             have GG65 := Aside0.mk HG65
             clear gb65 gl65 HG65
             (first | simp only [add_plain] at hx340_0 | skip)
             (first | simp only [add_plain] at hx341_0 | skip)
             obtain ⟨hx65_0, hf65_0⟩ := Kd.R_celln 0 HO_331001.out ((ji60) : Int) p65 q65
             replace p65 := eq_true p65
             replace q65 := eq_true q65
             have HP69 := Kd.R_putn HO_331001.out ((ji60) : Int) (wrap64 ((rd x331001_2 (ji60)) + (wrap64 (Int.tdiv (rd x331001_2 x87_2) 1000000))))
             rw [← Ny342.out] at HP69
             have HQ69 := Aside0.mk HP69
             clear HP69
             refine start_ (n := 15) (S := fun w' => w'.cell? ⟨gb330, 0, none⟩ = some (.bool (!(a0_0 == a1_0))) ∧ w'.cell? ⟨gb330, 1, none⟩ = some (.slice (some ⟨go65, 0, none⟩) x331001_2.length co68) ∧ w'.cell? ⟨go65, ((ji60)).toNat, none⟩ = some (.int .i64 (rd x331001_2 (ji60))) ∧ w'.cell? ⟨go65, (x87_2).toNat, none⟩ = some (.int .i64 (rd x331001_2 x87_2))) (ds := [14]) (bm 15 0) (by kernel_rfl) rfl rfl ⟨(blk_cell BK330.out 0).trans rfl, (blk_cell BK330.out 1).trans rfl, hx340_0, hx341_0⟩ (fun hHeld => ?_); refine with_tabW interchangeref1_TimesOf.tab16 interchangeref1_TimesOf.bits16 (fun HT_ HW_ => ?_)
             generalize wr.drew = w67 at HO_331001 BK324 BK325 BK326 BK330 HB GG65 HQ69 hf65_0 hx340_0 hx341_0 hx65_0 hHeld ⊢
             refine pu 0 90 (bm 15 1) HT_ ?_
             refine pu 2 92 (bm 15 5) HT_ ?_
             refine pu 3 93 (bm 15 13) HT_ ?_
             refine pu 6 96 (bm 15 77) HT_ ?_
             refine pu 8 98 (bm 15 333) HT_ ?_
             refine ta4 1 91 (bm 15 335) HT_ HW_ hHeld ?_
             refine pu 4 94 (bm 15 351) HT_ ?_
             refine ta4 5 95 (bm 15 383) HT_ HW_ hHeld ?_
             refine ta4 7 97 (bm 15 511) HT_ HW_ hHeld ?_
             refine pu 9 99 (bm 15 1023) HT_ ?_
             refine ta4 10 100 (bm 15 2047) HT_ HW_ hHeld ?_
             refine pu 11 101 (bm 15 4095) HT_ ?_
             refine pu 12 102 (bm 15 8191) HT_ ?_
             refine pu 13 103 (bm 15 16383) HT_ ?_
             refine last_ (i := 14) (N := none) (bm 15 32767) rfl rfl (one_of HT_.out (by kernel_rfl)) (by decide) (fun K hK => ?_)
             refine skip_ (w1 := ?_) (by rfl) rfl ?_ ?_
             rotate_left
             ·go_simp
              rfl
             refine hK.out _ _ ?_
             clear hK K
             refine done_ (done_of HT_.out (by kernel_rfl)) ?_
             have n0_ : Aside0 (Kd.R (Kd.int .i64) 3 (w67.setCell ⟨go65, ((ji60) : Int).toNat, none⟩ (.int .i64 (wrap64 ((rd x331001_2 (ji60)) + (wrap64 (Int.tdiv (rd x331001_2 x87_2) 1000000)))))) w.heap.size (fun k_ => (w.heap.size ≤ k_)) (.slice (some ⟨go65, 0, none⟩) x331001_2.length co68) y342) := ⟨by (with_reducible repeat (first | apply Kd.R_alloc | apply Kd.R_drewN | apply Kd.R_drew)); exact HQ69.out⟩
             have n1_ : Aside0 ((w67.setCell ⟨go65, ((ji60) : Int).toNat, none⟩ (.int .i64 (wrap64 ((rd x331001_2 (ji60)) + (wrap64 (Int.tdiv (rd x331001_2 x87_2) 1000000)))))).heap[gb324]? = some (.cells #[.bool a0_0, .slice A0_1 l0_1.length c0_1] 40 (0, 0))) := ⟨by (with_reducible repeat (first | refine blk_drewN ?_ _ | refine blk_drew ?_ | refine blk_alloc ?_ _)); refine blk_far ?_ (by have h_ := Kd.R_ne HO_331001.out BK324.out (by decide); intro e_; exact h_ (by rw [e_]; rfl)) _; exact zk BK324⟩
             have n2_ : Aside0 ((w67.setCell ⟨go65, ((ji60) : Int).toNat, none⟩ (.int .i64 (wrap64 ((rd x331001_2 (ji60)) + (wrap64 (Int.tdiv (rd x331001_2 x87_2) 1000000)))))).heap[gb325]? = some (.cells #[.bool a1_0, .slice A1_1 l1_1.length c1_1] 40 (0, 0))) := ⟨by (with_reducible repeat (first | refine blk_drewN ?_ _ | refine blk_drew ?_ | refine blk_alloc ?_ _)); refine blk_far ?_ (by have h_ := Kd.R_ne HO_331001.out BK325.out (by decide); intro e_; exact h_ (by rw [e_]; rfl)) _; exact zk BK325⟩
             have n3_ : Aside0 ((w67.setCell ⟨go65, ((ji60) : Int).toNat, none⟩ (.int .i64 (wrap64 ((rd x331001_2 (ji60)) + (wrap64 (Int.tdiv (rd x331001_2 x87_2) 1000000)))))).heap[gb326]? = some (.cells #[.bool false, .slice none 0 0] 40 (0, 0))) := ⟨by (with_reducible repeat (first | refine blk_drewN ?_ _ | refine blk_drew ?_ | refine blk_alloc ?_ _)); refine blk_far ?_ (by have h_ := Kd.R_ne HO_331001.out BK326.out (by decide); intro e_; exact h_ (by rw [e_]; rfl)) _; exact zk BK326⟩
             have n4_ : Aside0 ((w67.setCell ⟨go65, ((ji60) : Int).toNat, none⟩ (.int .i64 (wrap64 ((rd x331001_2 (ji60)) + (wrap64 (Int.tdiv (rd x331001_2 x87_2) 1000000)))))).heap[gb330]? = some (.cells #[.bool (!(a0_0 == a1_0)), .slice (some ⟨go65, 0, none⟩) x331001_2.length co68] 40 (0, 0))) := ⟨by (with_reducible repeat (first | refine blk_drewN ?_ _ | refine blk_drew ?_ | refine blk_alloc ?_ _)); refine blk_far ?_ (by have h_ := Kd.R_ne HO_331001.out BK330.out (by decide); intro e_; exact h_ (by rw [e_]; rfl)) _; exact zk BK330⟩
             have n5_ : Aside0 (Below w.heap.size w (w67.setCell ⟨go65, ((ji60) : Int).toNat, none⟩ (.int .i64 (wrap64 ((rd x331001_2 (ji60)) + (wrap64 (Int.tdiv (rd x331001_2 x87_2) 1000000))))))) := ⟨(zb w)⟩
             (try clear HO_331001)
             (try clear BK324)
             (try clear BK325)
             (try clear BK326)
             (try clear BK330)
             (try clear HB)
             generalize (w67.setCell ⟨go65, ((ji60) : Int).toNat, none⟩ (.int .i64 (wrap64 ((rd x331001_2 (ji60)) + (wrap64 (Int.tdiv (rd x331001_2 x87_2) 1000000)))))) = w70 at n0_ n1_ n2_ n3_ n4_ n5_ ⊢
             have HO_331001 := n0_
             have BK324 := n1_
             have BK325 := n2_
             have BK326 := n3_
             have BK330 := n4_
             have HB := n5_
             clear n0_ n1_ n2_ n3_ n4_ n5_
             have hnb71 := NB330_324.out
             have hnc71 := NB324_330.out
             have hnb72 := NB330_325.out
             have hnc72 := NB325_330.out
             have hnb73 := NB330_326.out
             have hnc73 := NB326_330.out
             obtain ⟨hcz74_0, hcz74_1, hfz74_0, hfz74_1⟩ := cz2 BK330
             have p343 : 0 ≤ (x87_2 : Int) := of_decide_eq_true (by assumption)
             have q343 : x87_2 < (y342.length : Int) := (by have h_ : (x87_2 : Int) < ((x331001_2.length : Int) : Int) := of_decide_eq_true (by assumption); first | (have e_ := (Kd.R_reads' HO_331001.out).1; omega) | simpa only [Ny342.out, List.length_set] using h_)
             have ql343 : ((x87_2 : Int) < ((x331001_2.length : Int) : Int)) = True := eq_true (of_decide_eq_true (by assumption))
             obtain ⟨ad343, e343, hx343_0⟩ := Kd.at_int (Kd.R_reads' HO_331001.out).2.2 x87_2 p343 q343
             obtain rfl : (⟨go65, 0, none⟩ : Addr) = ad343 := (by injection e343)
             (first | simp only [add_plain] at hx343_0 | simp only [add_at] at hx343_0 | simp only [Addr.add, Nat.zero_add] at hx343_0 | skip)
             replace p343 := eq_true p343
             replace q343 := eq_true q343
             have p66 : 0 ≤ (x87_2 : Int) := of_decide_eq_true (by assumption)
             have q66 : (x87_2 : Int) < ((x331001_2.length : Int) : Int) := of_decide_eq_true (by assumption)
             obtain ⟨hx66_0, hf66_0⟩ := Kd.R_celln 0 HO_331001.out (x87_2 : Int) p66 q66
             replace p66 := eq_true p66
             replace q66 := eq_true q66
             obtain ⟨hy75_, hz75_⟩ := Kd.R_celln 0 HO_331001.out (x87_2 : Int) (of_decide_eq_true (by assumption)) (of_decide_eq_true (by assumption))
             have HP75 := Kd.R_putg HO_331001.out (x87_2 : Int) (Int.tmod (rd y342 x87_2) 1000000)
             try go_wp2_with (first | ((with_reducible refine gate_store (t := 3) (p := 110) rfl ?_); refine store_event (t := 3) (p := 110) (v := ?vo_w76) (w1 := (w70.setCell ⟨go65, (x87_2 : Int).toNat, none⟩ (.int .i64 (Int.tmod (rd y342 x87_2) 1000000)))) ?hg ?ho ?hn ?hr ?_; (case ho => rfl); (case hg => rfl); (case hn => rfl); (case hr => first | (go_simp; done) | (go_simp; rfl)); intro w76 hw; have hg : w70.grownBy w76 (some go65) := (by rw [hw]; exact HP75.2); have hp_ : Kd.R (Kd.int .i64) 3 w76 w.heap.size (fun k_ => (w.heap.size ≤ k_)) (.slice (some ⟨go65, 0, none⟩) x331001_2.length co68) y344 := (by rw [hw, Ny344.out]; exact HP75.1); clear HP75; replace BK324 := Aside0.mk (blk_grown (g := gb324) (o := .cells #[.bool a0_0, .slice A0_1 l0_1.length c0_1] 40 (0, 0)) (zk BK324) hg (Kd.R_ne HO_331001.out BK324.out (by decide))); replace BK325 := Aside0.mk (blk_grown (g := gb325) (o := .cells #[.bool a1_0, .slice A1_1 l1_1.length c1_1] 40 (0, 0)) (zk BK325) hg (Kd.R_ne HO_331001.out BK325.out (by decide))); replace BK326 := Aside0.mk (blk_grown (g := gb326) (o := .cells #[.bool false, .slice none 0 0] 40 (0, 0)) (zk BK326) hg (Kd.R_ne HO_331001.out BK326.out (by decide))); replace BK330 := Aside0.mk (blk_grown (g := gb330) (o := .cells #[.bool (!(a0_0 == a1_0)), .slice (some ⟨go65, 0, none⟩) x331001_2.length co68] 40 (0, 0)) (zk BK330) hg (Kd.R_ne HO_331001.out BK330.out (by decide))); replace HO_331001 := Aside0.mk (hp_); replace HB := Aside0.mk ((by rw [hw]; exact below_set (HB.out) GB65.out : Below w.heap.size w w76)); clear hg hw hp_))
             go_roundg k2
             case measure => have := HK1.out; have := HK2.out; omega
             case rel => exact ⟨(ji60), (y344), (.slice (some ⟨go65, 0, none⟩) x331001_2.length co68), (by first | rfl | (simp; done) | (simp only [← hji60] <;> (first | rfl | simp)) | (simp [*]; done)), H', ⟨by have := HK1.out; have := HK2.out; omega⟩, ⟨zo HO_331001⟩, ⟨(zk BK324)⟩, ⟨(zk BK325)⟩, ⟨(zk BK326)⟩, ⟨(zk BK330)⟩, ⟨(zb w)⟩⟩
            ·rw [if_neg c64] at H
             exact absurd H (by simp)
           ·rw [if_neg c63] at H
            exact absurd H (by simp)
          ·rw [if_neg c62] at H
           exact absurd H (by simp)
         ·rw [if_neg c61] at H
          exact absurd H (by simp)
        ·rw [if_neg c59] at H
         have c59b0 : decide (x87_2 < (wrap64 ((x331001_1.length : Int) - 1))) = false := decide_eq_false c59
         clear c59
         replace H := Option.bind_eq_some_iff.mp H
         obtain ⟨⟨t345, t346⟩, A770, H⟩ := H
         try dsimp only at H
         have A77 := Aside0.mk A770
         clear A770
         simp only [Option.some.injEq, Prod.mk.injEq] at H
         obtain ⟨rfl, rfl⟩ := H
         have hnb78 := NB330_324.out
         have hnc78 := NB324_330.out
         have hnb79 := NB330_325.out
         have hnc79 := NB325_330.out
         have hnb80 := NB330_326.out
         have hnc80 := NB326_330.out
         obtain ⟨hcz81_0, hcz81_1, hfz81_0, hfz81_1⟩ := cz2 BK330
         obtain ⟨Ao82, co82, eo82⟩ := Kd.R_slice HO_331001.out
         subst eo82
         go_wp2_with (first | ((with_reducible refine gC 35 rfl ?_); refine gl_ 113 Tryd.func35 #[.agg #[.bool (!(a0_0 == a1_0)), .slice Ao82 x331001_2.length co82]] ?_; (with_reducible refine (interchangeref1_trimmed.calls k2 (!(a0_0 == a1_0)) (fun k_ => some k_ = (.slice Ao82 x331001_2.length co82 : Value).ownBlock) _ _ x331001_2 t345 t346 _ ?side1 A77.out).mono ?_); (case side1 => exact Kd.R_V (Kd.R_tight rfl (Kd.R_types (Kd.R_types (Kd.R_types (Kd.R_types (HO_331001.out) BK324.out (by decide)) BK325.out (by decide)) BK326.out (by decide)) BK330.out (by decide)))); rintro e w83 ⟨v347, rfl, ho0, hb⟩; refine ⟨_, rfl, ?_⟩; have HO348 := Aside0.mk (Kd.V_lower (Kd.V_mono (ok' := fun k_ => (w.heap.size ≤ k_) ∧ k_ ≠ gb324 ∧ k_ ≠ gb325 ∧ k_ ≠ gb326 ∧ k_ ≠ gb330) ho0 (fun k_ hk_ => ⟨Or.elim hk_ (fun hs_ => ((Kd.R_types (Kd.R_types (Kd.R_types (Kd.R_types (HO_331001.out) BK324.out (by decide)) BK325.out (by decide)) BK326.out (by decide)) BK330.out (by decide)).1 k_ hs_.symm).1.1.1.1) (fun hn_ => (Nat.le_trans (below_size (zb w)) hn_)), Or.elim hk_ (fun hs_ => ((Kd.R_types (Kd.R_types (Kd.R_types (Kd.R_types (HO_331001.out) BK324.out (by decide)) BK325.out (by decide)) BK326.out (by decide)) BK330.out (by decide)).1 k_ hs_.symm).1.1.1.2) (fun hn_ => (Kd.freshB (g := gb324) (o := .cells #[.bool a0_0, .slice A0_1 l0_1.length c0_1] 40 (0, 0)) (zk BK324) k_ hn_)), Or.elim hk_ (fun hs_ => ((Kd.R_types (Kd.R_types (Kd.R_types (Kd.R_types (HO_331001.out) BK324.out (by decide)) BK325.out (by decide)) BK326.out (by decide)) BK330.out (by decide)).1 k_ hs_.symm).1.1.2) (fun hn_ => (Kd.freshB (g := gb325) (o := .cells #[.bool a1_0, .slice A1_1 l1_1.length c1_1] 40 (0, 0)) (zk BK325) k_ hn_)), Or.elim hk_ (fun hs_ => ((Kd.R_types (Kd.R_types (Kd.R_types (Kd.R_types (HO_331001.out) BK324.out (by decide)) BK325.out (by decide)) BK326.out (by decide)) BK330.out (by decide)).1 k_ hs_.symm).1.2) (fun hn_ => (Kd.freshB (g := gb326) (o := .cells #[.bool false, .slice none 0 0] 40 (0, 0)) (zk BK326) k_ hn_)), Or.elim hk_ (fun hs_ => ((Kd.R_types (Kd.R_types (Kd.R_types (Kd.R_types (HO_331001.out) BK324.out (by decide)) BK325.out (by decide)) BK326.out (by decide)) BK330.out (by decide)).1 k_ hs_.symm).2) (fun hn_ => (Kd.freshB (g := gb330) (o := .cells #[.bool (!(a0_0 == a1_0)), .slice Ao82 x331001_2.length co82] 40 (0, 0)) (zk BK330) k_ hn_))⟩)) (below_size (zb w))); replace HO_331001 := rb HO_331001 hb; replace BK324 := bb BK324 hb; replace BK325 := bb BK325 hb; replace BK326 := bb BK326 hb; replace BK330 := bb BK330 hb; replace HB := hs w hb; (try clear hb); (try clear ho0); have hnb84 := NB326_324.out; have hnc84 := NB324_326.out; have hnb85 := NB326_325.out; have hnc85 := NB325_326.out; obtain ⟨hcz86_0, hcz86_1, hfz86_0, hfz86_1⟩ := cz2 BK326; obtain ⟨Ao87, co87, eo87⟩ := Kd.V_slice HO348.out; subst eo87))
         refine bodyPost_ret (results_cell_row rfl _ _ gb326 40 #[.bool t345, .slice Ao87 t346.length co87] (0, 0) _ rfl (by (with_reducible repeat (first | refine blk_drewN ?_ _ | refine blk_drew ?_ | refine blk_alloc ?_ _)); refine blk_put (cs := #[.bool t345, .slice none 0 0]) ?_ 1 _ rfl; (with_reducible repeat (first | refine blk_drewN ?_ _ | refine blk_drew ?_ | refine blk_alloc ?_ _)); refine blk_put (cs := #[.bool false, .slice none 0 0]) ?_ 0 _ rfl; exact zk BK326) Tryd.underlying40 rfl (by kernel_rfl)) rfl ?_
         exact ⟨_, by first | rfl | (simp [errW_none, errW_some] <;> rfl) | (simp only [← hji3]; first | rfl | (simp [errW_none, errW_some] <;> rfl)) | (simp [*, errW_none, errW_some] <;> rfl), by (with_reducible repeat (first | apply Kd.V_alloc | apply Kd.V_drewN | apply Kd.V_drew)); exact Kd.V_mono (Kd.V_far (p := ⟨gb326, 1, none⟩) (Kd.V_far (p := ⟨gb326, 0, none⟩) (Kd.V_mono HO348.out (fun k_ hk => (⟨hk, hk.2.2.2.1⟩ : _ ∧ k_ ≠ gb326))) (fun _ hk => hk.2) (.bool t345)) (fun _ hk => hk.2) (.slice Ao87 t346.length co87)) (fun _ hk => hk.1.1), (zb w)⟩
  ·rw [if_neg c5] at H
   exact absurd H (by simp)
 ·rw [if_neg c4] at H
  exact absurd H (by simp)

end Go.Proofs.YtaihfoihlbileaaDoor.R4
