-- Made by a program of this session out of the translation (wip/pp.py): functions, contracts.
import Derived.Test.YthgefhnolmloiaaGreatDoorP3x0
namespace Go.Proofs.YthgefhnolmloiaaGreatDoor.P3
open Go.RowKit Go.Proofs.YthgefhnolmloiaaGreatDoorW.PrintWords Go.Proofs.YthgefhnolmloiaaGreatDoorW.PrintLast Go.Proofs.YthgefhnolmloiaaGreatDoorW.PrintMore
attribute [local go_sem] max2_int min2_int max_two min_two max_three min_three max_four min_four   -- for this text's walks alone
set_option linter.unusedVariables false
set_option linter.unusedSimpArgs false

/-! ### strings_Compare: function 50 -/
-- STUB rounds=0 making=0
def strings_Compare.f (a0 : ByteArray) (a1 : ByteArray) : Option (Int) := some (Lib.compareBytes a0.data.toList a1.data.toList)
theorem strings_Compare.calls (a0 : ByteArray) (a1 : ByteArray) (r : Int) (w : World) (h : strings_Compare.f a0 a1 = some r) :
  Calls Tryz.prog 50 #[.string a0, .string a1] w fun e w' => e = .returned (.int .i64 r) ∧ Drawn0 w w' := by
 unfold strings_Compare.f at h
 injection h with h
 subst h
 refine (Any.strings_Compare Tryz.l106 a0 a1 w).mono ?_
 rintro e w' ⟨rfl, rfl⟩
 exact ⟨rfl, Drawn0.refl _⟩

/-! ### interchangeref10_contentOrder: function 41 -/
def interchangeref10_contentOrder.l0 : Nat → List Int → Int → Int → Option (Int)
 | 0, _, _, _ => none
 | k + 1, x22, x23, x24 => if x24 < x23 then (if 0 ≤ x24 then (if x24 < (x22.length : Int) then (if (rd x22 x24) = 0 then (interchangeref10_contentOrder.l0 k x22 x23 (wrap64 (x24 + 1))) else (some (rd x22 x24))) else (none)) else (none)) else (some 0)
def interchangeref10_contentOrder.f (k : Nat) (a0_0 : ByteArray) (a0_1 : ByteArray) (a0_2 : ByteArray) (a0_3 : Int) (a0_4 : Int) (a1_0 : ByteArray) (a1_1 : ByteArray) (a1_2 : ByteArray) (a1_3 : Int) (a1_4 : Int) : Option (Int) := (strings_Compare.f a0_0 a1_0).bind fun t250 => ((strings_Compare.f a0_1 a1_1).bind fun t251 => ((strings_Compare.f a0_2 a1_2).bind fun t252 => ((some (([t250, t251, t252] : List Int) : List Int)).bind fun y253 => (interchangeref10_contentOrder.l0 k y253 (y253.length : Int) 0))))
theorem interchangeref10_contentOrder.mono_l : ∀ k, (∀ y0 y1 y2, LeO (interchangeref10_contentOrder.l0 k y0 y1 y2) (interchangeref10_contentOrder.l0 (k + 1) y0 y1 y2))
 | 0 => fun _ _ _ r h => by simp [interchangeref10_contentOrder.l0] at h
 | k + 1 => by
  have ih0 := interchangeref10_contentOrder.mono_l k
  ·intro y0 y1 y2
   unfold interchangeref10_contentOrder.l0
   repeat' first | with_reducible first | exact ih0 _ _ _ | exact lr _ | exact ln _ | refine li ?_ ?_ | refine lb ?_ fun _ => ?_ | exact ih0 _ _ _ | exact ln _ | refine li ?_ ?_ | refine lb ?_ fun _ => ?_
theorem interchangeref10_contentOrder.mono : ∀ a0 a1 a2 a3 a4 a5 a6 a7 a8 a9 k, LeO (interchangeref10_contentOrder.f k a0 a1 a2 a3 a4 a5 a6 a7 a8 a9) (interchangeref10_contentOrder.f (k + 1) a0 a1 a2 a3 a4 a5 a6 a7 a8 a9) := by
 intro a0 a1 a2 a3 a4 a5 a6 a7 a8 a9 k
 have ih0 := interchangeref10_contentOrder.mono_l k
 unfold interchangeref10_contentOrder.f
 repeat' first | with_reducible first | exact ih0 _ _ _ | exact lr _ | exact ln _ | refine li ?_ ?_ | refine lb ?_ fun _ => ?_ | exact ih0 _ _ _ | exact ln _ | refine li ?_ ?_ | refine lb ?_ fun _ => ?_
def interchangeref10_contentOrder.T1 : Bool × List (List Nat × List Nat) := (true, [([], []), ([0], [0]), ([], []), ([2], [2]), ([1, 3], [1, 3]), ([], []), ([5], [5]), ([], []), ([7], [7]), ([6, 8, 4], [6, 8]), ([], []), ([10], [10]), ([], []), ([12], [12]), ([11, 13, 9], [11, 13]), ([4, 9, 14], [4, 9, 14]), ([15], [15]), ([], [])])
def interchangeref10_contentOrder.B1 : List Nat := [0, 1, 0, 4, 15, 0, 32, 0, 128, 511, 0, 1024, 0, 4096, 16383, 32767, 65535, 0]
theorem interchangeref10_contentOrder.tab1 : rtab .any (opsOf Tryz.f41 1) = interchangeref10_contentOrder.T1 := by kernel_rfl
theorem interchangeref10_contentOrder.bits1 : waitsOk interchangeref10_contentOrder.T1.2 interchangeref10_contentOrder.B1 = true := by kernel_rfl
set_option maxHeartbeats 8000000 in
set_option maxRecDepth 100000 in
theorem interchangeref10_contentOrder.calls (k : Nat) (a0_0 : ByteArray) (a0_1 : ByteArray) (a0_2 : ByteArray) (a0_3 : Int) (a0_4 : Int) (a1_0 : ByteArray) (a1_1 : ByteArray) (a1_2 : ByteArray) (a1_3 : Int) (a1_4 : Int) (r : Int) (w : World) (h : interchangeref10_contentOrder.f k a0_0 a0_1 a0_2 a0_3 a0_4 a1_0 a1_1 a1_2 a1_3 a1_4 = some r) :
  Calls Tryz.prog 41 #[.agg #[.string a0_0, .string a0_1, .string a0_2, .int .i64 a0_3, .int .i64 a0_4], .agg #[.string a1_0, .string a1_1, .string a1_2, .int .i64 a1_3, .int .i64 a1_4]] w fun e w' => e = .returned (.int .i64 r) ∧ Below w.heap.size w w' := by
 have hu66 := Tryz.underlying66
 have HB := Aside0.mk (Below.refl w.heap.size w)
 have H := h
 unfold interchangeref10_contentOrder.f at H
 clear h
 replace H := Option.bind_eq_some_iff.mp H
 obtain ⟨t250, A30, H⟩ := H
 try dsimp only at H
 have A3 := Aside0.mk A30
 clear A30
 replace H := Option.bind_eq_some_iff.mp H
 obtain ⟨t251, A40, H⟩ := H
 try dsimp only at H
 have A4 := Aside0.mk A40
 clear A40
 replace H := Option.bind_eq_some_iff.mp H
 obtain ⟨t252, A50, H⟩ := H
 try dsimp only at H
 have A5 := Aside0.mk A50
 clear A50
 obtain ⟨y253, hy253⟩ : ∃ y_ : List Int, y_ = (([t250, t251, t252] : List Int)) := ⟨_, rfl⟩
 replace H : (interchangeref10_contentOrder.l0 k y253 (y253.length : Int) 0) = some r := by first | (rw [hy253]; with_reducible exact H) | (have H2_ := (Option.bind_some _ _).symm.trans H; rw [hy253]; with_reducible exact H2_) | (have H2_ := (Option.bind_some _ _).symm.trans H; with_reducible exact H2_) | with_reducible exact H | (rw [hy253]; exact H) | exact H
 have Ny253 := Aside0.mk hy253
 clear hy253
 have H' := Aside0.mk H
 clear H
 go_enter Tryz.func41, Tryz.ntmps41
 try go_wp2_with (first | ((with_reducible refine gD 2 rfl ?_); refine bx w 2 #[.string a0_0, .string a0_1, .string a0_2, .int .i64 a0_3, .int .i64 a0_4] 66 ?_; intro gb248 hg w6 hb BK248 GW248 GE248; clear HB; intro HB; clear hb hg) | ((with_reducible refine gD 3 rfl ?_); refine bx w 3 #[.string a1_0, .string a1_1, .string a1_2, .int .i64 a1_3, .int .i64 a1_4] 66 ?_; intro gb249 hg w7 hb BK249 GW249 GE249; clear HB; intro HB; have NB248_249 := nbl BK248 hg; have NB249_248 := nbr BK248 hg; replace BK248 := bb BK248 hb; clear hb hg))
 have n0_ := Aside0.mk (blk_drew BK248.out)
 have n1_ := Aside0.mk (blk_drew BK249.out)
 have n2_ := Aside0.mk (below_drew1 HB.out)
 clear BK248
 clear BK249
 clear HB
 have BK248 := n0_
 have BK249 := n1_
 have HB := n2_
 clear n0_ n1_ n2_
 refine start_ (n := 18) (S := fun w' => w'.cell? ⟨gb248, 0, none⟩ = some (.string a0_0) ∧ w'.cell? ⟨gb248, 1, none⟩ = some (.string a0_1) ∧ w'.cell? ⟨gb248, 2, none⟩ = some (.string a0_2) ∧ w'.cell? ⟨gb248, 3, none⟩ = some (.int .i64 a0_3) ∧ w'.cell? ⟨gb248, 4, none⟩ = some (.int .i64 a0_4) ∧ w'.cell? ⟨gb249, 0, none⟩ = some (.string a1_0) ∧ w'.cell? ⟨gb249, 1, none⟩ = some (.string a1_1) ∧ w'.cell? ⟨gb249, 2, none⟩ = some (.string a1_2) ∧ w'.cell? ⟨gb249, 3, none⟩ = some (.int .i64 a1_3) ∧ w'.cell? ⟨gb249, 4, none⟩ = some (.int .i64 a1_4)) (ds := []) (bm 18 0) (by kernel_rfl) rfl rfl ⟨(blk_cell BK248.out 0).trans rfl, (blk_cell BK248.out 1).trans rfl, (blk_cell BK248.out 2).trans rfl, (blk_cell BK248.out 3).trans rfl, (blk_cell BK248.out 4).trans rfl, (blk_cell BK249.out 0).trans rfl, (blk_cell BK249.out 1).trans rfl, (blk_cell BK249.out 2).trans rfl, (blk_cell BK249.out 3).trans rfl, (blk_cell BK249.out 4).trans rfl⟩ (fun hHeld => ?_); refine with_tabW interchangeref10_contentOrder.tab1 interchangeref10_contentOrder.bits1 (fun HT_ HW_ => ?_)
 generalize w7.drew = w8 at BK248 BK249 HB hHeld ⊢
 refine pu 0 7 (bm 18 1) HT_ ?_
 refine pu 2 9 (bm 18 5) HT_ ?_
 refine pu 5 12 (bm 18 37) HT_ ?_
 refine pu 7 14 (bm 18 165) HT_ ?_
 refine pu 10 17 (bm 18 1189) HT_ ?_
 refine pu 12 19 (bm 18 5285) HT_ ?_
 refine pu 17 24 (bm 18 136357) HT_ ?_
 refine ta10 1 8 (bm 18 136359) HT_ HW_ hHeld ?_
 refine ta10 3 10 (bm 18 136367) HT_ HW_ hHeld ?_
 refine ta10 6 13 (bm 18 136431) HT_ HW_ hHeld ?_
 refine ta10 8 15 (bm 18 136687) HT_ HW_ hHeld ?_
 refine ta10 11 18 (bm 18 138735) HT_ HW_ hHeld ?_
 refine ta10 13 20 (bm 18 146927) HT_ HW_ hHeld ?_
 refine one_ (i := 4) (N := some 11) (bm 18 146943) rfl rfl (one_of HT_.out (by kernel_rfl)) (by decide) (fun K hK => ?_)
 refine gs Tryz.func50 #[.string a0_0, .string a1_0] ?_
 with_reducible refine (strings_Compare.calls a0_0 a1_0 t250 _ A3.out).mono ?_
 rintro e w' ⟨rfl, ⟨nd, rfl⟩⟩
 refine ⟨_, rfl, ?_⟩
 refine hK.out _ _ ⟨(blk_cell BK248.out 0).trans rfl, (blk_cell BK248.out 1).trans rfl, (blk_cell BK248.out 2).trans rfl, (blk_cell BK248.out 3).trans rfl, (blk_cell BK248.out 4).trans rfl, (blk_cell BK249.out 0).trans rfl, (blk_cell BK249.out 1).trans rfl, (blk_cell BK249.out 2).trans rfl, (blk_cell BK249.out 3).trans rfl, (blk_cell BK249.out 4).trans rfl⟩ (fun hHeld => ?_)
 clear hK K
 refine norm_ (a' := ?_) ?_ ?_
 rotate_left
 ·show Act.put _ (some 11) _ = _
  simp only [sq, i64_w, i32_w]
  rfl
 refine one_ (i := 9) (N := some 16) (bm 18 147455) rfl rfl (one_of HT_.out (by kernel_rfl)) (by decide) (fun K hK => ?_)
 refine gs Tryz.func50 #[.string a0_1, .string a1_1] ?_
 with_reducible refine (strings_Compare.calls a0_1 a1_1 t251 _ A4.out).mono ?_
 rintro e w' ⟨rfl, ⟨nd, rfl⟩⟩
 refine ⟨_, rfl, ?_⟩
 refine hK.out _ _ ⟨(blk_cell BK248.out 0).trans rfl, (blk_cell BK248.out 1).trans rfl, (blk_cell BK248.out 2).trans rfl, (blk_cell BK248.out 3).trans rfl, (blk_cell BK248.out 4).trans rfl, (blk_cell BK249.out 0).trans rfl, (blk_cell BK249.out 1).trans rfl, (blk_cell BK249.out 2).trans rfl, (blk_cell BK249.out 3).trans rfl, (blk_cell BK249.out 4).trans rfl⟩ (fun hHeld => ?_)
 clear hK K
 refine norm_ (a' := ?_) ?_ ?_
 rotate_left
 ·show Act.put _ (some 16) _ = _
  simp only [sq, i64_w, i32_w]
  rfl
 refine one_ (i := 14) (N := some 21) (bm 18 163839) rfl rfl (one_of HT_.out (by kernel_rfl)) (by decide) (fun K hK => ?_)
 refine gs Tryz.func50 #[.string a0_2, .string a1_2] ?_
 with_reducible refine (strings_Compare.calls a0_2 a1_2 t252 _ A5.out).mono ?_
 rintro e w' ⟨rfl, ⟨nd, rfl⟩⟩
 refine ⟨_, rfl, ?_⟩
 refine hK.out _ _ ⟨(blk_cell BK248.out 0).trans rfl, (blk_cell BK248.out 1).trans rfl, (blk_cell BK248.out 2).trans rfl, (blk_cell BK248.out 3).trans rfl, (blk_cell BK248.out 4).trans rfl, (blk_cell BK249.out 0).trans rfl, (blk_cell BK249.out 1).trans rfl, (blk_cell BK249.out 2).trans rfl, (blk_cell BK249.out 3).trans rfl, (blk_cell BK249.out 4).trans rfl⟩ (fun hHeld => ?_)
 clear hK K
 refine norm_ (a' := ?_) ?_ ?_
 rotate_left
 ·show Act.put _ (some 21) _ = _
  simp only [sq, i64_w, i32_w]
  rfl
 refine one_ (i := 15) (N := some 22) (bm 18 196607) rfl rfl (one_of HT_.out (by kernel_rfl)) (by decide) (fun K hK => ?_)
 refine Kd.R_lit_step (Kd.int .i64) _ 3 ?hg (N := 22) ?hd (xs := ([t250, t251, t252] : List Int)) (inner := [.int .i64 t250, .int .i64 t251, .int .i64 t252]) (ok := fun _ => True) (okp := fun _ => True) ?hr ?hp (fun _ hk => hk) trivial (Below.refl _ _) (Nat.le_refl _) (by simp) ?_; (case hd => rfl); (case hg => rfl); (case hr => first | (go_simp; done) | (go_simp; rfl)); (case hp => exact (Reps.one (show Kd.M (Kd.int .i64) _ _ _ t250 [.int .i64 t250] from rfl) (Reps.one (show Kd.M (Kd.int .i64) _ _ _ t251 [.int .i64 t251] from rfl) (Reps.one (show Kd.M (Kd.int .i64) _ _ _ t252 [.int .i64 t252] from rfl) (Reps.none _ _)))))
 intro v254 w9 ho10 hb hg_ hnew_
 clear hg_ hnew_
 (first | rw [← Ny253.out] at ho10 | (simp only [Int.reduceToNat] at ho10; rw [← Ny253.out] at ho10))
 have n0_ := Aside0.mk (Kd.R_lower ho10 (below_size (zb w)))
 have n1_ := bb BK248 hb
 have n2_ := bb BK249 hb
 have n3_ := hs w hb
 clear BK248
 clear BK249
 clear HB
 have HO255 := n0_
 have BK248 := n1_
 have BK249 := n2_
 have HB := n3_
 clear n0_ n1_ n2_ n3_
 clear hb ho10
 obtain ⟨Ao11, co11, eo11⟩ := Kd.R_slice HO255.out
 (first | subst eo11 | (injection eo11 with f1_ f2_ f3_; have f4_ := f1_.symm; have f5_ := f3_.symm; clear f1_ f2_ f3_; subst f4_; subst f5_))
 refine hK.out _ _ ⟨(blk_cell BK248.out 0).trans rfl, (blk_cell BK248.out 1).trans rfl, (blk_cell BK248.out 2).trans rfl, (blk_cell BK248.out 3).trans rfl, (blk_cell BK248.out 4).trans rfl, (blk_cell BK249.out 0).trans rfl, (blk_cell BK249.out 1).trans rfl, (blk_cell BK249.out 2).trans rfl, (blk_cell BK249.out 3).trans rfl, (blk_cell BK249.out 4).trans rfl⟩ (fun hHeld => ?_)
 clear hK K
 refine norm_ (a' := ?_) ?_ ?_
 rotate_left
 ·show Act.put _ (some 22) _ = _
  simp only [sq, i64_w, i32_w]
  rfl
 refine pu 16 23 (bm 18 262143) HT_ ?_
 refine done_ (done_of HT_.out (by kernel_rfl)) ?_
 try go_wp2
 try simp only [sq]
 go_loopg [24] k (fun kq v24 w' => ∃ (x24_1 : Int), v24 = .int .i64 x24_1 ∧ Aside0 (interchangeref10_contentOrder.l0 kq y253 (y253.length : Int) x24_1 = some r) ∧ Aside0 (kq ≤ k) ∧ Aside0 (Kd.R (Kd.int .i64) 3 w' w.heap.size (fun _ => True) (.slice Ao11 y253.length co11) y253) ∧ Aside0 (w'.heap[gb248]? = some (.cells #[.string a0_0, .string a0_1, .string a0_2, .int .i64 a0_3, .int .i64 a0_4] 66 (0, 0))) ∧ Aside0 (w'.heap[gb249]? = some (.cells #[.string a1_0, .string a1_1, .string a1_2, .int .i64 a1_3, .int .i64 a1_4] 66 (0, 0))) ∧ Aside0 (Below w.heap.size w w'))
 case atStart => exact ⟨(0), ar, H', ⟨Nat.le_refl _⟩, ⟨zo HO255⟩, ⟨(zk BK248)⟩, ⟨(zk BK249)⟩, ⟨(zb w)⟩⟩
 case round =>
  clear H'
  try clear p2
  try clear c4
  try clear c5
  obtain ⟨x24_1, rfl, HA, HK1, HO_22, BK248, BK249, HB⟩ := hrel
  cases gk with
  | zero => exact absurd HA.out (by simp [interchangeref10_contentOrder.l0])
  | succ k1 =>
   have H := HA.out
   clear HA
   simp only [interchangeref10_contentOrder.l0] at H
   by_cases c12 : x24_1 < (y253.length : Int)
   ·rw [if_pos c12] at H
    have c12b0 : decide (x24_1 < (y253.length : Int)) = true := decide_eq_true c12
    clear c12
    by_cases c13 : 0 ≤ x24_1
    ·rw [if_pos c13] at H
     have c13b0 : decide (0 ≤ x24_1) = true := decide_eq_true c13
     clear c13
     by_cases c14 : x24_1 < (y253.length : Int)
     ·rw [if_pos c14] at H
      have c14b0 : decide (x24_1 < (y253.length : Int)) = true := decide_eq_true c14
      clear c14
      by_cases c15 : (rd y253 x24_1) = 0
      ·rw [if_pos c15] at H
       have c15b0 : ((rd y253 x24_1) == 0) = true := beq_iff_eq.mpr c15
       have c15b1 : ((rd y253 x24_1) != 0) = false := bne_eq_false_iff_eq.mpr c15
       clear c15
       have H' := Aside0.mk H
       clear H
       have p256 : 0 ≤ (x24_1 : Int) := of_decide_eq_true (by assumption)
       have q256 : x24_1 < (y253.length : Int) := of_decide_eq_true (by assumption)
       obtain ⟨ad256, e256, hx256_0⟩ := Kd.at_int (Kd.R_reads' HO_22.out).2.2 x24_1 p256 q256
       cases e256
       replace p256 := eq_true p256
       replace q256 := eq_true q256
       go_wp2
       go_roundg k1
       case measure => have := HK1.out; omega
       case rel => exact ⟨(wrap64 (x24_1 + 1)), ar, H', ⟨by have := HK1.out; omega⟩, ⟨zo HO_22⟩, ⟨(zk BK248)⟩, ⟨(zk BK249)⟩, ⟨(zb w)⟩⟩
      ·rw [if_neg c15] at H
       have c15b0 : ((rd y253 x24_1) == 0) = false := beq_eq_false_iff_ne.mpr c15
       have c15b1 : ((rd y253 x24_1) != 0) = true := bne_iff_ne.mpr c15
       obtain rfl := Option.some.inj H
       have p256 : 0 ≤ (x24_1 : Int) := of_decide_eq_true (by assumption)
       have q256 : x24_1 < (y253.length : Int) := of_decide_eq_true (by assumption)
       obtain ⟨ad256, e256, hx256_0⟩ := Kd.at_int (Kd.R_reads' HO_22.out).2.2 x24_1 p256 q256
       cases e256
       replace p256 := eq_true p256
       replace q256 := eq_true q256
       go_wp2
       go_ret
       exact ⟨by first | rfl | (simp [errW_none, errW_some] <;> rfl) | (simp [*, errW_none, errW_some] <;> rfl), (zb w)⟩
     ·rw [if_neg c14] at H
      exact absurd H (by simp)
    ·rw [if_neg c13] at H
     exact absurd H (by simp)
   ·rw [if_neg c12] at H
    have c12b0 : decide (x24_1 < (y253.length : Int)) = false := decide_eq_false c12
    clear c12
    obtain rfl := Option.some.inj H
    go_wp2
    go_ret
    exact ⟨by first | rfl | (simp [errW_none, errW_some] <;> rfl) | (simp [*, errW_none, errW_some] <;> rfl), (zb w)⟩

end Go.Proofs.YthgefhnolmloiaaGreatDoor.P3
