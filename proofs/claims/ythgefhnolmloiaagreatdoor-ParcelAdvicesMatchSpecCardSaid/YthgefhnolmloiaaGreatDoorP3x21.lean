-- Made by a program of this session out of the translation (wip/pp.py): functions, contracts.
import Derived.Test.YthgefhnolmloiaaGreatDoorP3x0
import Derived.Test.YthgefhnolmloiaaGreatDoorP3x12
import Derived.Test.YthgefhnolmloiaaGreatDoorP3x13
import Derived.Test.YthgefhnolmloiaaGreatDoorP3x16
import Derived.Test.YthgefhnolmloiaaGreatDoorP3x17
import Derived.Test.YthgefhnolmloiaaGreatDoorP3x19
import Derived.Test.YthgefhnolmloiaaGreatDoorP3x20
namespace Go.Proofs.YthgefhnolmloiaaGreatDoor.P3
open Go.RowKit Go.Proofs.YthgefhnolmloiaaGreatDoorW.PrintWords Go.Proofs.YthgefhnolmloiaaGreatDoorW.PrintLast Go.Proofs.YthgefhnolmloiaaGreatDoorW.PrintMore
attribute [local go_sem] max2_int min2_int max_two min_two max_three min_three max_four min_four   -- for this text's walks alone
set_option linter.unusedVariables false
set_option linter.unusedSimpArgs false

/-! ### parcel_Path: function 10 -/
def parcel_Path.l0 : Nat → List ByteArray → List Int → Int → Int → ByteArray → ByteArray → Int → List (S42) → Option (List ByteArray × Int)
 | 0, _, _, _, _, _, _, _, _ => none
 | k + 1, x9, x34, x35, x36, x456000, x456001, x456002, x456003 => if x36 < x35 then (if 0 ≤ x36 then (if x36 < (x34.length : Int) then (if 0 ≤ (rd x34 x36) then (if (rd x34 x36) < (x456003.length : Int) then (if x9.length < 8796093022208 then (parcel_Path.l0 k (x9 ++ [(rd_T42 x456003 (rd x34 x36)).f0]) x34 x35 (wrap64 (x36 + 1)) x456000 x456001 x456002 x456003) else (none)) else (none)) else (none)) else (none)) else (none)) else ((slices_Reverse_string_string.f k x9).bind fun t471 => (some (t471, 0)))
def parcel_Path.f (k : Nat) (a0_0 : ByteArray) (a0_1 : ByteArray) (a0_2 : Int) (l0_3 : List (S42)) (a1 : ByteArray) : Option (List ByteArray × Int) := (parcel_labelFault.f k a0_0 a0_1 a0_2 l0_3 a1 false).bind fun t456 => (if t456 = 0 then ((parcel_parcelAt.f k a0_0 a0_1 a0_2 l0_3 a1).bind fun bt457 => ((parcel_around.f k a0_0 a0_1 a0_2 l0_3 bt457.1).bind fun bt462 => (parcel_Path.l0 k (([a1] : List ByteArray)) bt462.1 (bt462.1.length : Int) 0 a0_0 a0_1 a0_2 l0_3))) else (some (([] : List ByteArray), t456)))
theorem parcel_Path.mono_l : ∀ k, (∀ y0 y1 y2 y3 y4 y5 y6 y7, LeO (parcel_Path.l0 k y0 y1 y2 y3 y4 y5 y6 y7) (parcel_Path.l0 (k + 1) y0 y1 y2 y3 y4 y5 y6 y7))
 | 0 => fun _ _ _ _ _ _ _ _ r h => by simp [parcel_Path.l0] at h
 | k + 1 => by
  have ih0 := parcel_Path.mono_l k
  ·intro y0 y1 y2 y3 y4 y5 y6 y7
   unfold parcel_Path.l0
   repeat' first | with_reducible first | exact ih0 _ _ _ _ _ _ _ _ | exact parcel_around.mono _ _ _ _ _ _ | exact parcel_labelFault.mono _ _ _ _ _ _ _ | exact parcel_parcelAt.mono _ _ _ _ _ _ | exact slices_Reverse_string_string.mono _ _ | exact lr _ | exact ln _ | refine li ?_ ?_ | refine lb ?_ fun _ => ?_ | exact ih0 _ _ _ _ _ _ _ _ | exact parcel_around.mono _ _ _ _ _ _ | exact parcel_labelFault.mono _ _ _ _ _ _ _ | exact parcel_parcelAt.mono _ _ _ _ _ _ | exact slices_Reverse_string_string.mono _ _ | exact ln _ | refine li ?_ ?_ | refine lb ?_ fun _ => ?_
theorem parcel_Path.mono : ∀ a0 a1 a2 a3 a4 k, LeO (parcel_Path.f k a0 a1 a2 a3 a4) (parcel_Path.f (k + 1) a0 a1 a2 a3 a4) := by
 intro a0 a1 a2 a3 a4 k
 have ih0 := parcel_Path.mono_l k
 unfold parcel_Path.f
 repeat' first | with_reducible first | exact ih0 _ _ _ _ _ _ _ _ | exact parcel_around.mono _ _ _ _ _ _ | exact parcel_labelFault.mono _ _ _ _ _ _ _ | exact parcel_parcelAt.mono _ _ _ _ _ _ | exact slices_Reverse_string_string.mono _ _ | exact lr _ | exact ln _ | refine li ?_ ?_ | refine lb ?_ fun _ => ?_ | exact ih0 _ _ _ _ _ _ _ _ | exact parcel_around.mono _ _ _ _ _ _ | exact parcel_labelFault.mono _ _ _ _ _ _ _ | exact parcel_parcelAt.mono _ _ _ _ _ _ | exact slices_Reverse_string_string.mono _ _ | exact ln _ | refine li ?_ ?_ | refine lb ?_ fun _ => ?_
set_option maxHeartbeats 8000000 in
set_option maxRecDepth 100000 in
theorem parcel_Path.calls (k : Nat) (a0_0 : ByteArray) (a0_1 : ByteArray) (a0_2 : Int) (A0_3 : Option Addr) (c0_3 : Nat) (l0_3 : List (S42)) (a1 : ByteArray) (r1 : List ByteArray) (r2 : Int) (w : World) (hr0_3 : Kd.C k42 w A0_3 l0_3.length l0_3) (hc0_3 : l0_3.length ≤ c0_3) (h : parcel_Path.f k a0_0 a0_1 a0_2 l0_3 a1 = some (r1, r2)) :
  Calls Tryz.prog 10 #[.agg #[.string a0_0, .string a0_1, .int .i64 a0_2, .slice A0_3 l0_3.length c0_3], .string a1] w fun e w' => ∃ v0_ : Value, e = .returned (.tuple #[v0_, .int .i64 r2]) ∧ Kd.R Kd.string 9 w' w.heap.size (fun _ => True) v0_ r1 ∧ Below w.heap.size w w' := by
 have hu24 := Tryz.underlying24
 have HR0_3 := Aside0.mk hr0_3
 have HC0_3 := Aside0.mk hc0_3
 clear hr0_3 hc0_3
 have HB := Aside0.mk (Below.refl w.heap.size w)
 have H := h
 unfold parcel_Path.f at H
 clear h
 replace H := Option.bind_eq_some_iff.mp H
 obtain ⟨t456, A30, H⟩ := H
 try dsimp only at H
 have A3 := Aside0.mk A30
 clear A30
 by_cases c4 : t456 = 0
 ·rw [if_pos c4] at H
  have c4b0 : (t456 == 0) = true := beq_iff_eq.mpr c4
  have c4b1 : (t456 != 0) = false := bne_eq_false_iff_eq.mpr c4
  clear c4
  replace H := Option.bind_eq_some_iff.mp H
  obtain ⟨⟨t457, t458⟩, A50, H⟩ := H
  try dsimp only at H
  have A5 := Aside0.mk A50
  clear A50
  obtain ⟨y459, hy459⟩ : ∃ y_ : List ByteArray, y_ = (([a1] : List ByteArray)) := ⟨_, rfl⟩
  replace H : ((parcel_around.f k a0_0 a0_1 a0_2 l0_3 t457).bind fun bt462 => (parcel_Path.l0 k y459 bt462.1 (bt462.1.length : Int) 0 a0_0 a0_1 a0_2 l0_3)) = some (r1, r2) := by first | (rw [hy459]; with_reducible exact H) | (have H2_ := (Option.bind_some _ _).symm.trans H; rw [hy459]; with_reducible exact H2_) | (have H2_ := (Option.bind_some _ _).symm.trans H; with_reducible exact H2_) | with_reducible exact H | (rw [hy459]; exact H) | exact H
  have Ny459 := Aside0.mk hy459
  clear hy459
  replace H := Option.bind_eq_some_iff.mp H
  obtain ⟨⟨t462, t465⟩, A60, H⟩ := H
  try dsimp only at H
  have A6 := Aside0.mk A60
  clear A60
  have H' := Aside0.mk H
  clear H
  go_enter Tryz.func10, Tryz.ntmps10
  go_wp2_with (first | ((with_reducible refine gD 2 rfl ?_); refine bx w 2 #[.string a0_0, .string a0_1, .int .i64 a0_2, .slice A0_3 l0_3.length c0_3] 24 ?_; intro gb455 hg w7 hb BK455 GW455 GE455; clear HB; intro HB; clear hb hg; obtain ⟨hcz8_0, hcz8_1, hcz8_2, hcz8_3, hfz8_0, hfz8_1, hfz8_2, hfz8_3⟩ := cz4 BK455) | ((with_reducible refine gC 15 rfl ?_); refine gl_ 16 Tryz.func15 #[.agg #[.string a0_0, .string a0_1, .int .i64 a0_2, .slice A0_3 l0_3.length c0_3], .string a1, .bool false] ?_; (with_reducible refine (parcel_labelFault.calls k a0_0 a0_1 a0_2 _ _ l0_3 a1 false t456 _ (zc HR0_3) HC0_3.out A3.out).mono ?_); rintro e w9 ⟨rfl, hb⟩; refine ⟨_, rfl, ?_⟩; replace BK455 := bb BK455 hb; replace HB := hs w hb; (try clear hb); obtain ⟨hcz10_0, hcz10_1, hcz10_2, hcz10_3, hfz10_0, hfz10_1, hfz10_2, hfz10_3⟩ := cz4 BK455) | ((with_reducible refine gC 29 rfl ?_); refine gl_ 23 Tryz.func29 #[.agg #[.string a0_0, .string a0_1, .int .i64 a0_2, .slice A0_3 l0_3.length c0_3], .string a1] ?_; (with_reducible refine (parcel_parcelAt.calls k a0_0 a0_1 a0_2 _ _ l0_3 a1 t457 t458 _ (zc HR0_3) HC0_3.out A5.out).mono ?_); rintro e w11 ⟨rfl, hb⟩; refine ⟨_, rfl, ?_⟩; replace BK455 := bb BK455 hb; replace HB := hs w hb; (try clear hb)) | ((with_reducible refine gD 27 rfl ?_); refine Kd.R_lit Kd.string _ 9 ?hg (N := 27) ?hd (xs := ([a1] : List ByteArray)) (inner := [.string a1]) (ok := fun _ => True) (okp := fun _ => True) ?hr ?hp (fun _ hk => hk) trivial (Below.refl _ _) (Nat.le_refl _) (by simp) ?_; (case hd => rfl); (case hg => rfl); (case hr => first | (go_simp; done) | (go_simp; rfl)); (case hp => exact (Reps.one (show Kd.M Kd.string _ _ _ a1 [.string a1] from rfl) (Reps.none _ _))); intro v460 w12 ho13 hb hg_ hnew_; clear hg_ hnew_; (first | rw [← Ny459.out] at ho13 | (simp only [Int.reduceToNat] at ho13; rw [← Ny459.out] at ho13)); have HO461 := Aside0.mk (Kd.R_lower ho13 (below_size (zb w))); replace BK455 := bb BK455 hb; replace HB := hs w hb; clear hb ho13; obtain ⟨hcz14_0, hcz14_1, hcz14_2, hcz14_3, hfz14_0, hfz14_1, hfz14_2, hfz14_3⟩ := cz4 BK455) | ((with_reducible refine gC 30 rfl ?_); refine gl_ 31 Tryz.func30 #[.agg #[.string a0_0, .string a0_1, .int .i64 a0_2, .slice A0_3 l0_3.length c0_3], .int .i64 t457] ?_; (with_reducible refine (parcel_around.calls k a0_0 a0_1 a0_2 _ _ l0_3 t457 t462 t465 _ (zc HR0_3) HC0_3.out A6.out).mono ?_); rintro e w15 ⟨v463, rfl, ho0, hb⟩; refine ⟨_, rfl, ?_⟩; replace HO461 := rb HO461 hb; have HO464 := Aside0.mk (Kd.R_lower ho0 (below_size (zb w))); replace BK455 := bb BK455 hb; replace HB := hs w hb; (try clear hb); (try clear ho0); obtain ⟨Ao16, co16, eo16⟩ := Kd.R_slice HO464.out; subst eo16))
  try simp only [sq]
  go_loopg [9, 36] k (fun kq v9 v36 w' => ∃ (x9_1 : List ByteArray) (x36_1 : Int), v36 = .int .i64 x36_1 ∧ Aside0 (parcel_Path.l0 kq x9_1 t462 (t462.length : Int) x36_1 a0_0 a0_1 a0_2 l0_3 = some (r1, r2)) ∧ Aside0 (kq ≤ k) ∧ Aside0 (Kd.R Kd.string 9 w' w.heap.size (fun _ => True) v9 x9_1) ∧ Aside0 (Kd.R (Kd.int .i64) 3 w' w.heap.size (fun _ => True) (.slice Ao16 t462.length co16) t462) ∧ Aside0 (w'.heap[gb455]? = some (.cells #[.string a0_0, .string a0_1, .int .i64 a0_2, (.slice A0_3 l0_3.length c0_3)] 24 (0, 0))) ∧ Aside0 (Below w.heap.size w w'))
  case atStart => exact ⟨(y459), (0), ar, H', ⟨Nat.le_refl _⟩, ⟨zo HO461⟩, ⟨zo HO464⟩, ⟨(zk BK455)⟩, ⟨(zb w)⟩⟩
  case round =>
   clear H'
   try clear c1
   try clear c2
   try clear p2
   try clear c3
   try clear c4
   try clear c4b0
   try clear c4b1
   try clear c10
   try clear c15
   try clear hcz10_0 hcz10_1 hcz10_2 hcz10_3
   try clear hcz14_0 hcz14_1 hcz14_2 hcz14_3
   try clear hcz8_0 hcz8_1 hcz8_2 hcz8_3
   try clear hfz10_0 hfz10_1 hfz10_2 hfz10_3
   try clear hfz14_0 hfz14_1 hfz14_2 hfz14_3
   try clear hfz8_0 hfz8_1 hfz8_2 hfz8_3
   obtain ⟨x9_1, x36_1, rfl, HA, HK1, HO_9, HO_34, BK455, HB⟩ := hrel
   cases gk with
   | zero => exact absurd HA.out (by simp [parcel_Path.l0])
   | succ k1 =>
    have H := HA.out
    clear HA
    simp only [parcel_Path.l0] at H
    by_cases c17 : x36_1 < (t462.length : Int)
    ·rw [if_pos c17] at H
     have c17b0 : decide (x36_1 < (t462.length : Int)) = true := decide_eq_true c17
     clear c17
     by_cases c18 : 0 ≤ x36_1
     ·rw [if_pos c18] at H
      have c18b0 : decide (0 ≤ x36_1) = true := decide_eq_true c18
      clear c18
      by_cases c19 : x36_1 < (t462.length : Int)
      ·rw [if_pos c19] at H
       have c19b0 : decide (x36_1 < (t462.length : Int)) = true := decide_eq_true c19
       clear c19
       by_cases c20 : 0 ≤ (rd t462 x36_1)
       ·rw [if_pos c20] at H
        have c20b0 : decide (0 ≤ (rd t462 x36_1)) = true := decide_eq_true c20
        clear c20
        by_cases c21 : (rd t462 x36_1) < (l0_3.length : Int)
        ·rw [if_pos c21] at H
         have c21b0 : decide ((rd t462 x36_1) < (l0_3.length : Int)) = true := decide_eq_true c21
         clear c21
         by_cases c22 : x9_1.length < 8796093022208
         ·rw [if_pos c22] at H
          have LMc22 := Aside0.mk c22
          clear c22
          obtain ⟨y468, hy468⟩ : ∃ y_ : List ByteArray, y_ = (x9_1 ++ [(rd_T42 l0_3 (rd t462 x36_1)).f0]) := ⟨_, rfl⟩
          replace H : (parcel_Path.l0 k1 y468 t462 (t462.length : Int) (wrap64 (x36_1 + 1)) a0_0 a0_1 a0_2 l0_3) = some (r1, r2) := by first | (rw [hy468]; with_reducible exact H) | (have H2_ := (Option.bind_some _ _).symm.trans H; rw [hy468]; with_reducible exact H2_) | (have H2_ := (Option.bind_some _ _).symm.trans H; with_reducible exact H2_) | with_reducible exact H | (rw [hy468]; exact H) | exact H
          have Ny468 := Aside0.mk hy468
          clear hy468
          have H' := Aside0.mk H
          clear H
          have p466 : 0 ≤ (x36_1 : Int) := of_decide_eq_true (by assumption)
          have q466 : x36_1 < (t462.length : Int) := of_decide_eq_true (by assumption)
          obtain ⟨ad466, e466, hx466_0⟩ := Kd.at_int (Kd.R_reads' HO_34.out).2.2 x36_1 p466 q466
          cases e466
          replace p466 := eq_true p466
          replace q466 := eq_true q466
          obtain ⟨hcz23_0, hcz23_1, hcz23_2, hcz23_3, hfz23_0, hfz23_1, hfz23_2, hfz23_3⟩ := cz4 BK455
          have p467 : 0 ≤ ((rd t462 x36_1) : Int) := of_decide_eq_true (by assumption)
          have q467 : (rd t462 x36_1) < (l0_3.length : Int) := of_decide_eq_true (by assumption)
          obtain ⟨ad467, A467_4, c467_4, e467, hx467_0, hx467_1, hx467_2, hx467_3, hx467_4, hl467_4, hi467_4⟩ := at_T42 HR0_3.out (rd t462 x36_1) p467 q467
          cases e467
          replace hx467_0 := hz HB hx467_0
          replace hx467_1 := hz HB hx467_1
          replace hx467_2 := hz HB hx467_2
          replace hx467_3 := hz HB hx467_3
          replace hx467_4 := hz HB hx467_4
          have HR467_4 := Aside0.mk hi467_4
          have HC467_4 := Aside0.mk hl467_4
          clear hi467_4 hl467_4
          replace p467 := eq_true p467
          replace q467 := eq_true q467
          go_wp2_with (first | ((with_reducible refine gate_builtin (b := .append) (xs := #[.tmp 40, .tmp 47]) rfl ?_); at_builtin; refine Kd.R_append Kd.string (w0 := w) w.heap.size rfl (.tmp 40) (.tmp 47) 25 9 (.string ⟨#[]⟩) 16 rfl Tryz.underlying25 info9 rfl (by decide) (by omega) u9 x9_1 ((rd_T42 l0_3 (rd t462 x36_1)).f0) [.string ((rd_T42 l0_3 (rd t462 x36_1)).f0)] (fun _ => True) (fun _ => False) rfl rfl ?aP (fun _ hk => hk.elim) ?aF ?aO ?aB ?aS ?aL ?_; (case aP => exact rfl); (case aB => exact (zb w)); (case aF => exact (fun _ _ => trivial)); (case aO => exact (zo HO_9)); (case aS => exact (below_size (zb w))); (case aL => have := LMc22.out; omega); intro v469 w24 ho hb hg hat; rw [← Ny468.out] at ho; replace HO_34 := Aside0.mk (Kd.R_over' (zo HO_34) (Kd.R_typed (zo HO_9)) (by decide) hg); replace BK455 := Aside0.mk (blk_grown (g := gb455) (o := .cells #[.string a0_0, .string a0_1, .int .i64 a0_2, .slice (some ad467) l0_3.length c0_3] 24 (0, 0)) (zk BK455) hg (Kd.R_ne HO_9.out BK455.out (by decide))); replace HB := Aside0.mk (hb); have HO470 := Aside0.mk (ho); clear HO_9; clear ho hb hg hat))
          go_roundg k1
          case measure => have := HK1.out; omega
          case rel => exact ⟨(y468), (wrap64 (x36_1 + 1)), ar, H', ⟨by have := HK1.out; omega⟩, ⟨zo HO470⟩, ⟨zo HO_34⟩, ⟨(zk BK455)⟩, ⟨(zb w)⟩⟩
         ·rw [if_neg c22] at H
          exact absurd H (by simp)
        ·rw [if_neg c21] at H
         exact absurd H (by simp)
       ·rw [if_neg c20] at H
        exact absurd H (by simp)
      ·rw [if_neg c19] at H
       exact absurd H (by simp)
     ·rw [if_neg c18] at H
      exact absurd H (by simp)
    ·rw [if_neg c17] at H
     have c17b0 : decide (x36_1 < (t462.length : Int)) = false := decide_eq_false c17
     clear c17
     replace H := Option.bind_eq_some_iff.mp H
     obtain ⟨t471, A250, H⟩ := H
     try dsimp only at H
     have A25 := Aside0.mk A250
     clear A250
     simp only [Option.some.injEq, Prod.mk.injEq] at H
     obtain ⟨rfl, rfl⟩ := H
     obtain ⟨Ao26, co26, eo26⟩ := Kd.R_slice HO_9.out
     subst eo26
     go_wp2_with (first | ((with_reducible refine gC 31 rfl ?_); refine gl_ 51 Tryz.func31 #[.slice Ao26 x9_1.length co26] ?_; (with_reducible refine (slices_Reverse_string_string.calls k1 (fun k_ => some k_ = (.slice Ao26 x9_1.length co26 : Value).ownBlock) (.slice Ao26 x9_1.length co26) x9_1 t471 w _ ?side1 ?side2 A25.out).mono ?_); (case side1 => exact zb w); (case side2 => exact Kd.R_tight rfl HO_9.out); rintro e w27 ⟨rfl, hy0, hb, hkp⟩; refine ⟨_, rfl, ?_⟩; replace HO_34 := Aside0.mk (Kd.R_mono (ok' := fun k_ => True) (Kd.R_keptB ((Kd.R_apart' HO_34.out (Kd.R_typed HO_9.out) (by decide))) hkp (fun k_ hk_ hs_ => (hk_.2) hs_)) (fun k_ hk_ => trivial)); replace BK455 := Aside0.mk (blk_kept (zk BK455) hkp (fun hs_ => (fun e_ => (Kd.R_ne HO_9.out BK455.out (by decide)) e_) hs_)); replace HO_9 := Aside0.mk (Kd.R_reok rfl hy0 (fun k_ e_ => HO_9.out.1 k_ e_)); replace HB := Aside0.mk (hb); (try clear hb); (try clear hkp); (try clear hy0)))
     go_ret2
     exact ⟨_, by first | rfl | (simp [errW_none, errW_some] <;> rfl) | (simp [*, errW_none, errW_some] <;> rfl), by (with_reducible repeat (first | apply Kd.R_alloc | apply Kd.R_drewN | apply Kd.R_drew)); exact HO_9.out, (zb w)⟩
 ·rw [if_neg c4] at H
  have c4b0 : (t456 == 0) = false := beq_eq_false_iff_ne.mpr c4
  have c4b1 : (t456 != 0) = true := bne_iff_ne.mpr c4
  simp only [Option.some.injEq, Prod.mk.injEq] at H
  obtain ⟨rfl, rfl⟩ := H
  go_enter Tryz.func10, Tryz.ntmps10
  go_wp2_with (first | ((with_reducible refine gD 2 rfl ?_); refine bx w 2 #[.string a0_0, .string a0_1, .int .i64 a0_2, .slice A0_3 l0_3.length c0_3] 24 ?_; intro gb455 hg w28 hb BK455 GW455 GE455; clear HB; intro HB; clear hb hg; obtain ⟨hcz29_0, hcz29_1, hcz29_2, hcz29_3, hfz29_0, hfz29_1, hfz29_2, hfz29_3⟩ := cz4 BK455) | ((with_reducible refine gC 15 rfl ?_); refine gl_ 16 Tryz.func15 #[.agg #[.string a0_0, .string a0_1, .int .i64 a0_2, .slice A0_3 l0_3.length c0_3], .string a1, .bool false] ?_; (with_reducible refine (parcel_labelFault.calls k a0_0 a0_1 a0_2 _ _ l0_3 a1 false t456 _ (zc HR0_3) HC0_3.out A3.out).mono ?_); rintro e w30 ⟨rfl, hb⟩; refine ⟨_, rfl, ?_⟩; replace BK455 := bb BK455 hb; replace HB := hs w hb; (try clear hb)))
  go_ret2
  exact ⟨_, by first | rfl | (simp [errW_none, errW_some] <;> rfl) | (simp [*, errW_none, errW_some] <;> rfl), by first | exact Kd.R_nil _ _ _ _ _ | exact Kd.N_nil _ _ _ _ _ | exact Kd.V_nil _ _ _ _ _ | exact Kd.Q_nil _ _ _ _ _ | exact Kd.S_nil _ _ _ _ _, (zb w)⟩

/-! ### parcel_room: function 51 -/
mutual
def parcel_room.j0 : Nat → ByteArray → Bool → Option (Int × Bool)
 | 0, _, _ => none
 | k + 1, x0, x12 => if x12 = true then (some (0, false)) else (parcel_room.l0 k 1 (wrap64 (17 - (x0.size : Int))) 0)
def parcel_room.l0 : Nat → Int → Int → Int → Option (Int × Bool)
 | 0, _, _, _ => none
 | k + 1, x4, x15, x16 => if x16 < x15 then (parcel_room.l0 k (wrap64 (x4 * 10)) x15 (wrap64 (x16 + 1))) else (some (x4, true))
end
def parcel_room.f (k : Nat) (a0 : ByteArray) : Option (Int × Bool) := if (a0.size : Int) > 15 then (parcel_room.j0 k a0 true) else ((kit_IsDigits.f k a0).bind fun t472 => (parcel_room.j0 k a0 (!t472)))
theorem parcel_room.mono_l : ∀ k, (∀ y0 y1, LeO (parcel_room.j0 k y0 y1) (parcel_room.j0 (k + 1) y0 y1)) ∧ (∀ y0 y1 y2, LeO (parcel_room.l0 k y0 y1 y2) (parcel_room.l0 (k + 1) y0 y1 y2))
 | 0 => ⟨fun _ _ r h => by simp [parcel_room.j0] at h, fun _ _ _ r h => by simp [parcel_room.l0] at h⟩
 | k + 1 => by
  obtain ⟨ih0, ih1⟩ := parcel_room.mono_l k
  refine ⟨?_, ?_⟩
  ·intro y0 y1
   unfold parcel_room.j0
   repeat' first | with_reducible first | exact ih0 _ _ | exact ih1 _ _ _ | exact kit_IsDigits.mono _ _ | exact lr _ | exact ln _ | refine li ?_ ?_ | refine lb ?_ fun _ => ?_ | exact ih0 _ _ | exact ih1 _ _ _ | exact kit_IsDigits.mono _ _ | exact ln _ | refine li ?_ ?_ | refine lb ?_ fun _ => ?_
  ·intro y0 y1 y2
   unfold parcel_room.l0
   repeat' first | with_reducible first | exact ih0 _ _ | exact ih1 _ _ _ | exact kit_IsDigits.mono _ _ | exact lr _ | exact ln _ | refine li ?_ ?_ | refine lb ?_ fun _ => ?_ | exact ih0 _ _ | exact ih1 _ _ _ | exact kit_IsDigits.mono _ _ | exact ln _ | refine li ?_ ?_ | refine lb ?_ fun _ => ?_
theorem parcel_room.mono : ∀ a0 k, LeO (parcel_room.f k a0) (parcel_room.f (k + 1) a0) := by
 intro a0 k
 obtain ⟨ih0, ih1⟩ := parcel_room.mono_l k
 unfold parcel_room.f
 repeat' first | with_reducible first | exact ih0 _ _ | exact ih1 _ _ _ | exact kit_IsDigits.mono _ _ | exact lr _ | exact ln _ | refine li ?_ ?_ | refine lb ?_ fun _ => ?_ | exact ih0 _ _ | exact ih1 _ _ _ | exact kit_IsDigits.mono _ _ | exact ln _ | refine li ?_ ?_ | refine lb ?_ fun _ => ?_
set_option maxHeartbeats 8000000 in
set_option maxRecDepth 100000 in
theorem parcel_room.calls (k : Nat) (a0 : ByteArray) (r1 : Int) (r2 : Bool) (w : World) (h : parcel_room.f k a0 = some (r1, r2)) :
  Calls Tryz.prog 51 #[.string a0] w fun e w' => e = .returned (.tuple #[.int .i64 r1, .bool r2]) ∧ Drawn0 w w' := by
 have H := h
 unfold parcel_room.f at H
 clear h
 have HC2 := Aside0.mk H
 clear H
 go_enter Tryz.func51, Tryz.ntmps51
 go_upto_region 1 with (fail)
 go_cut [12] (fun v12 wc => ∃ (kq : Nat) (x12_1 : Bool), v12 = .bool x12_1 ∧ Aside0 (parcel_room.j0 kq a0 x12_1 = some (r1, r2)) ∧ Aside0 (kq ≤ k) ∧ Drawn0 w wc)
 case first =>
  have H := HC2.out
  clear HC2
  by_cases c3 : (a0.size : Int) > 15
  ·rw [if_pos c3] at H
   have c3b0 : decide (15 < (a0.size : Int)) = true := decide_eq_true c3
   have c3b1 : decide (15 < a0.size) = true := decide_eq_true (by omega)
   clear c3
   (first | rw [c3b0] | (simp only [i64_w, i32_w]; rw [c3b0]) | skip)
   have H' := Aside0.mk H
   clear H
   go_wp2
   go_meet
   case rel => exact ⟨_, (true), ar, H', ⟨by first | omega | exact Nat.le_refl _⟩, dr⟩
  ·rw [if_neg c3] at H
   have c3b0 : decide (15 < (a0.size : Int)) = false := decide_eq_false c3
   have c3b1 : decide (15 < a0.size) = false := decide_eq_false (by omega)
   clear c3
   (first | rw [c3b0] | (simp only [i64_w, i32_w]; rw [c3b0]) | skip)
   replace H := Option.bind_eq_some_iff.mp H
   obtain ⟨t472, A40, H⟩ := H
   try dsimp only at H
   have A4 := Aside0.mk A40
   clear A40
   have H' := Aside0.mk H
   clear H
   go_wp2_with (first | (go_at_call 74; (with_reducible refine (kit_IsDigits.calls k a0 t472 _ A4.out).mono ?_); rintro e w' ⟨rfl, ⟨nd, rfl⟩⟩))
   go_meet
   case rel => exact ⟨_, (!t472), ar, H', ⟨by first | omega | exact Nat.le_refl _⟩, dr⟩
 case rest =>
  clear HC2
  try clear p2
  try clear c3
  try clear c3b0
  try clear c3b1
  obtain ⟨kq, x12_1, rfl, HA, HJ1, ⟨mc1, rfl⟩⟩ := hcut
  cases kq with
  | zero => exact absurd HA.out (by simp [parcel_room.j0])
  | succ kj1 =>
   have H := HA.out
   clear HA
   simp only [parcel_room.j0] at H
   by_cases c5 : x12_1 = true
   ·subst c5
    have H1 : (some (0, false)) = some (r1, r2) := by rw [if_pos rfl] at H; exact H
    clear H
    have H := H1
    clear H1
    simp only [Option.some.injEq, Prod.mk.injEq] at H
    obtain ⟨rfl, rfl⟩ := H
    go_wp2
    go_ret2
    exact ⟨ar, dr⟩
   ·replace c5 := Bool.eq_false_iff.mpr c5
    subst c5
    have H1 : (parcel_room.l0 kj1 1 (wrap64 (17 - (a0.size : Int))) 0) = some (r1, r2) := by rw [if_neg (show ¬ (false = true) by decide)] at H; exact H
    clear H
    have H := H1
    clear H1
    have H' := Aside0.mk H
    clear H
    go_wp2
    try simp only [sq]
    go_loopg [4, 16] kj1 (fun kq v4 v16 w' => ∃ (x4_2 : Int) (x16_2 : Int), v4 = .int .i64 x4_2 ∧ v16 = .int .i64 x16_2 ∧ Aside0 (parcel_room.l0 kq x4_2 (wrap64 (17 - (a0.size : Int))) x16_2 = some (r1, r2)) ∧ Aside0 (kq ≤ kj1) ∧ Drawn0 w w')
    case atStart => exact ⟨(1), (0), ar, ar, H', ⟨Nat.le_refl _⟩, dr⟩
    case round =>
     clear H'
     try clear c1
     try clear p2
     try clear c3
     try clear c3b0
     try clear c3b1
     try clear c5
     try clear p2
     obtain ⟨x4_2, x16_2, rfl, rfl, HA, HK2, ⟨m2, rfl⟩⟩ := hrel
     cases gk with
     | zero => exact absurd HA.out (by simp [parcel_room.l0])
     | succ k2 =>
      have H := HA.out
      clear HA
      simp only [parcel_room.l0] at H
      by_cases c6 : x16_2 < (wrap64 (17 - (a0.size : Int)))
      ·rw [if_pos c6] at H
       have c6b0 : decide (x16_2 < (wrap64 (17 - (a0.size : Int)))) = true := decide_eq_true c6
       clear c6
       have H' := Aside0.mk H
       clear H
       go_wp2
       go_roundg k2
       case measure => have := HJ1.out; have := HK2.out; omega
       case rel => exact ⟨(wrap64 (x4_2 * 10)), (wrap64 (x16_2 + 1)), ar, ar, H', ⟨by have := HJ1.out; have := HK2.out; omega⟩, dr⟩
      ·rw [if_neg c6] at H
       have c6b0 : decide (x16_2 < (wrap64 (17 - (a0.size : Int)))) = false := decide_eq_false c6
       clear c6
       simp only [Option.some.injEq, Prod.mk.injEq] at H
       obtain ⟨rfl, rfl⟩ := H
       go_wp2
       go_ret2
       exact ⟨ar, dr⟩

/-! ### strconv_small: function 125 -/
def strconv_small.f (a0 : Int) : Option (ByteArray) := if a0 < 10 then (if 0 ≤ a0 then (if a0 ≤ (wrap64 (a0 + 1)) then (if (wrap64 (a0 + 1)) ≤ 36 then (some ((⟨#[48, 49, 50, 51, 52, 53, 54, 55, 56, 57, 97, 98, 99, 100, 101, 102, 103, 104, 105, 106, 107, 108, 109, 110, 111, 112, 113, 114, 115, 116, 117, 118, 119, 120, 121, 122]⟩ : ByteArray).extract (a0 : Int).toNat ((wrap64 (a0 + 1)) : Int).toNat)) else (none)) else (none)) else (none)) else (none)
set_option maxHeartbeats 8000000 in
set_option maxRecDepth 100000 in
theorem strconv_small.calls (a0 : Int) (r : ByteArray) (w : World) (h : strconv_small.f a0 = some r) :
  Calls Tryz.prog 125 #[.int .i64 a0] w fun e w' => e = .returned (.string r) ∧ Drawn0 w w' := by
 have H := h
 unfold strconv_small.f at H
 clear h
 by_cases c2 : a0 < 10
 ·rw [if_pos c2] at H
  have c2b0 : decide (a0 < 10) = true := decide_eq_true c2
  clear c2
  by_cases c3 : 0 ≤ a0
  ·rw [if_pos c3] at H
   have c3b0 := eq_true c3
   have c3b1 : decide (0 ≤ a0) = true := decide_eq_true c3
   clear c3
   by_cases c4 : a0 ≤ (wrap64 (a0 + 1))
   ·rw [if_pos c4] at H
    have c4b0 := eq_true c4
    have c4b1 : decide (a0 ≤ (wrap64 (a0 + 1))) = true := decide_eq_true c4
    by_cases c5 : (wrap64 (a0 + 1)) ≤ 36
    ·rw [if_pos c5] at H
     have c5b0 := eq_true c5
     have c5b1 : decide ((wrap64 (a0 + 1)) ≤ 36) = true := decide_eq_true c5
     obtain rfl := Option.some.inj H
     go_enter Tryz.func125, Tryz.ntmps125
     go_wp2
     go_ret
     exact ⟨ar, dr⟩
    ·rw [if_neg c5] at H
     exact absurd H (by simp)
   ·rw [if_neg c4] at H
    exact absurd H (by simp)
  ·rw [if_neg c3] at H
   exact absurd H (by simp)
 ·rw [if_neg c2] at H
  exact absurd H (by simp)

/-! ### strconv_log10Pow2: function 136 -/
def strconv_log10Pow2.f (a0 : Int) : Option (Int) := some ((wrap64 (a0 * 78913)) / 262144)
set_option maxHeartbeats 8000000 in
set_option maxRecDepth 100000 in
theorem strconv_log10Pow2.calls (a0 : Int) (r : Int) (w : World) (h : strconv_log10Pow2.f a0 = some r) :
  Calls Tryz.prog 136 #[.int .i64 a0] w fun e w' => e = .returned (.int .i64 r) ∧ Drawn0 w w' := by
 have H := h
 unfold strconv_log10Pow2.f at H
 clear h
 obtain rfl := Option.some.inj H
 go_enter Tryz.func136, Tryz.ntmps136
 go_wp2
 go_ret
 exact ⟨ar, dr⟩

-- NOT PRINTED: function 137 (bits_Len64)

/-! ### strconv_bool2_int: function 138 -/
def strconv_bool2_int.f (a0 : Bool) : Option (Int) := if a0 = true then (some 1) else (some 0)
set_option maxHeartbeats 8000000 in
set_option maxRecDepth 100000 in
theorem strconv_bool2_int.calls (a0 : Bool) (r : Int) (w : World) (h : strconv_bool2_int.f a0 = some r) :
  Calls Tryz.prog 138 #[.bool a0] w fun e w' => e = .returned (.int .i64 r) ∧ Drawn0 w w' := by
 have H := h
 unfold strconv_bool2_int.f at H
 clear h
 by_cases c2 : a0 = true
 ·subst c2
  have H1 : (some 1) = some r := by rw [if_pos rfl] at H; exact H
  clear H
  have H := H1
  clear H1
  obtain rfl := Option.some.inj H
  go_enter Tryz.func138, Tryz.ntmps138
  go_wp2
  go_ret
  exact ⟨ar, dr⟩
 ·replace c2 := Bool.eq_false_iff.mpr c2
  subst c2
  have H1 : (some 0) = some r := by rw [if_neg (show ¬ (false = true) by decide)] at H; exact H
  clear H
  have H := H1
  clear H1
  obtain rfl := Option.some.inj H
  go_enter Tryz.func138, Tryz.ntmps138
  go_wp2
  go_ret
  exact ⟨ar, dr⟩

-- NOT PRINTED: function 126 (strconv_numDigits)

-- NOT PRINTED: function 127 (strconv_formatBase10)

-- NOT PRINTED: function 128 (strconv_formatBits)

/-! ### strconv_FormatInt: function 108 -/
def strconv_FormatInt.j0 : Nat → Int → Bool → Option (ByteArray)
 | 0, _, _ => none
 | k + 1, x0, x17 => if x17 = true then ((strconv_small.f x0).bind fun t473 => (some t473)) else (none)
def strconv_FormatInt.f (k : Nat) (a0 : Int) (a1 : Int) : Option (ByteArray) := if a1 = 10 then (if 0 ≤ a0 then (strconv_FormatInt.j0 k a0 (decide (a0 < 100))) else (strconv_FormatInt.j0 k a0 false)) else (none)
theorem strconv_FormatInt.mono_l : ∀ k, (∀ y0 y1, LeO (strconv_FormatInt.j0 k y0 y1) (strconv_FormatInt.j0 (k + 1) y0 y1))
 | 0 => fun _ _ r h => by simp [strconv_FormatInt.j0] at h
 | k + 1 => by
  have ih0 := strconv_FormatInt.mono_l k
  ·intro y0 y1
   unfold strconv_FormatInt.j0
   repeat' first | with_reducible first | exact ih0 _ _ | exact lr _ | exact ln _ | refine li ?_ ?_ | refine lb ?_ fun _ => ?_ | exact ih0 _ _ | exact ln _ | refine li ?_ ?_ | refine lb ?_ fun _ => ?_
theorem strconv_FormatInt.mono : ∀ a0 a1 k, LeO (strconv_FormatInt.f k a0 a1) (strconv_FormatInt.f (k + 1) a0 a1) := by
 intro a0 a1 k
 have ih0 := strconv_FormatInt.mono_l k
 unfold strconv_FormatInt.f
 repeat' first | with_reducible first | exact ih0 _ _ | exact lr _ | exact ln _ | refine li ?_ ?_ | refine lb ?_ fun _ => ?_ | exact ih0 _ _ | exact ln _ | refine li ?_ ?_ | refine lb ?_ fun _ => ?_
set_option maxHeartbeats 8000000 in
set_option maxRecDepth 100000 in
theorem strconv_FormatInt.calls (k : Nat) (a0 : Int) (a1 : Int) (r : ByteArray) (w : World) (h : strconv_FormatInt.f k a0 a1 = some r) :
  Calls Tryz.prog 108 #[.int .i64 a0, .int .i64 a1] w fun e w' => e = .returned (.string r) ∧ Below w.heap.size w w' := by
 have HB := Aside0.mk (Below.refl w.heap.size w)
 have H := h
 unfold strconv_FormatInt.f at H
 clear h
 by_cases c3 : a1 = 10
 ·rw [if_pos c3] at H
  have c3b0 : (a1 == 10) = true := beq_iff_eq.mpr c3
  have c3b1 : (a1 != 10) = false := bne_eq_false_iff_eq.mpr c3
  clear c3
  have HC4 := Aside0.mk H
  clear H
  go_enter Tryz.func108, Tryz.ntmps108
  go_upto_region 2 with (fail)
  go_cut [17] (fun v17 wc => ∃ (kq : Nat) (x17_3 : Bool), v17 = .bool x17_3 ∧ Aside0 (strconv_FormatInt.j0 kq a0 x17_3 = some r) ∧ Aside0 (kq ≤ k) ∧ Aside0 (Below w.heap.size w wc))
  case first =>
   have H := HC4.out
   clear HC4
   by_cases c5 : 0 ≤ a0
   ·rw [if_pos c5] at H
    have c5b0 : decide (0 ≤ a0) = true := decide_eq_true c5
    clear c5
    (first | rw [c5b0] | (simp only [i64_w, i32_w]; rw [c5b0]) | skip)
    have H' := Aside0.mk H
    clear H
    go_wp2
    go_meet
    case rel => exact ⟨_, (decide (a0 < 100)), ar, H', ⟨by first | omega | exact Nat.le_refl _⟩, ⟨(zb w)⟩⟩
   ·rw [if_neg c5] at H
    have c5b0 : decide (0 ≤ a0) = false := decide_eq_false c5
    clear c5
    (first | rw [c5b0] | (simp only [i64_w, i32_w]; rw [c5b0]) | skip)
    have H' := Aside0.mk H
    clear H
    go_wp2
    go_meet
    case rel => exact ⟨_, (false), ar, H', ⟨by first | omega | exact Nat.le_refl _⟩, ⟨(zb w)⟩⟩
  case rest =>
   clear HC4
   try clear c1
   try clear p2
   try clear c3
   try clear c3b0
   try clear c3b1
   try clear c5
   try clear c5b0
   obtain ⟨kq, x17_3, rfl, HA, HJ3, HB⟩ := hcut
   cases kq with
   | zero => exact absurd HA.out (by simp [strconv_FormatInt.j0])
   | succ kj3 =>
    have H := HA.out
    clear HA
    simp only [strconv_FormatInt.j0] at H
    by_cases c6 : x17_3 = true
    ·subst c6
     have H1 : ((strconv_small.f a0).bind fun t473 => (some t473)) = some r := by rw [if_pos rfl] at H; exact H
     clear H
     have H := H1
     clear H1
     replace H := Option.bind_eq_some_iff.mp H
     obtain ⟨t473, A70, H⟩ := H
     try dsimp only at H
     have A7 := Aside0.mk A70
     clear A70
     obtain rfl := Option.some.inj H
     go_wp2_with (first | ((with_reducible refine gC 125 rfl ?_); refine gl_ 19 Tryz.func125 #[.int .i64 a0] ?_; (with_reducible refine (strconv_small.calls a0 t473 _ A7.out).mono ?_); rintro e w' ⟨rfl, ⟨nd, rfl⟩⟩; refine ⟨_, rfl, ?_⟩))
     go_ret
     exact ⟨by first | rfl | (simp [errW_none, errW_some] <;> rfl) | (simp [*, errW_none, errW_some] <;> rfl), (zb w)⟩
    ·replace c6 := Bool.eq_false_iff.mpr c6
     subst c6
     have H1 : (none) = some r := by rw [if_neg (show ¬ (false = true) by decide)] at H; exact H
     clear H
     have H := H1
     clear H1
     exact absurd H (by simp)
 ·rw [if_neg c3] at H
  exact absurd H (by simp)

/-! ### strconv_Itoa_75: function 75 -/
def strconv_Itoa_75.f (k : Nat) (a0 : Int) : Option (ByteArray) := (strconv_FormatInt.f k a0 10).bind fun t474 => (some t474)
theorem strconv_Itoa_75.mono : ∀ a0 k, LeO (strconv_Itoa_75.f k a0) (strconv_Itoa_75.f (k + 1) a0) := by
 intro a0 k
 unfold strconv_Itoa_75.f
 repeat' first | with_reducible first | exact strconv_FormatInt.mono _ _ _ | exact lr _ | exact ln _ | refine li ?_ ?_ | refine lb ?_ fun _ => ?_ | exact strconv_FormatInt.mono _ _ _ | exact ln _ | refine li ?_ ?_ | refine lb ?_ fun _ => ?_
set_option maxHeartbeats 8000000 in
set_option maxRecDepth 100000 in
theorem strconv_Itoa_75.calls (k : Nat) (a0 : Int) (r : ByteArray) (w : World) (h : strconv_Itoa_75.f k a0 = some r) :
  Calls Tryz.prog 75 #[.int .i64 a0] w fun e w' => e = .returned (.string r) ∧ Below w.heap.size w w' := by
 have HB := Aside0.mk (Below.refl w.heap.size w)
 have H := h
 unfold strconv_Itoa_75.f at H
 clear h
 replace H := Option.bind_eq_some_iff.mp H
 obtain ⟨t474, A20, H⟩ := H
 try dsimp only at H
 have A2 := Aside0.mk A20
 clear A20
 obtain rfl := Option.some.inj H
 go_enter Tryz.func75, Tryz.ntmps75
 go_wp2_with (first | ((with_reducible refine gC 108 rfl ?_); refine gl_ 4 Tryz.func108 #[.int .i64 a0, .int .i64 10] ?_; (with_reducible refine (strconv_FormatInt.calls k a0 10 t474 _ A2.out).mono ?_); rintro e w3 ⟨rfl, hb⟩; refine ⟨_, rfl, ?_⟩; replace HB := hs w hb; (try clear hb)))
 go_ret
 exact ⟨by first | rfl | (simp [errW_none, errW_some] <;> rfl) | (simp [*, errW_none, errW_some] <;> rfl), (zb w)⟩

/-! ### strconv_Itoa_52: function 52 -/
def strconv_Itoa_52.f (k : Nat) (a0 : Int) : Option (ByteArray) := (strconv_Itoa_75.f k a0).bind fun t475 => (some t475)
theorem strconv_Itoa_52.mono : ∀ a0 k, LeO (strconv_Itoa_52.f k a0) (strconv_Itoa_52.f (k + 1) a0) := by
 intro a0 k
 unfold strconv_Itoa_52.f
 repeat' first | with_reducible first | exact strconv_Itoa_75.mono _ _ | exact lr _ | exact ln _ | refine li ?_ ?_ | refine lb ?_ fun _ => ?_ | exact strconv_Itoa_75.mono _ _ | exact ln _ | refine li ?_ ?_ | refine lb ?_ fun _ => ?_
set_option maxHeartbeats 8000000 in
set_option maxRecDepth 100000 in
theorem strconv_Itoa_52.calls (k : Nat) (a0 : Int) (r : ByteArray) (w : World) (h : strconv_Itoa_52.f k a0 = some r) :
  Calls Tryz.prog 52 #[.int .i64 a0] w fun e w' => e = .returned (.string r) ∧ Below w.heap.size w w' := by
 have HB := Aside0.mk (Below.refl w.heap.size w)
 have H := h
 unfold strconv_Itoa_52.f at H
 clear h
 replace H := Option.bind_eq_some_iff.mp H
 obtain ⟨t475, A20, H⟩ := H
 try dsimp only at H
 have A2 := Aside0.mk A20
 clear A20
 obtain rfl := Option.some.inj H
 go_enter Tryz.func52, Tryz.ntmps52
 go_wp2_with (first | ((with_reducible refine gC 75 rfl ?_); refine gl_ 4 Tryz.func75 #[.int .i64 a0] ?_; (with_reducible refine (strconv_Itoa_75.calls k a0 t475 _ A2.out).mono ?_); rintro e w3 ⟨rfl, hb⟩; refine ⟨_, rfl, ?_⟩; replace HB := hs w hb; (try clear hb)))
 go_ret
 exact ⟨by first | rfl | (simp [errW_none, errW_some] <;> rfl) | (simp [*, errW_none, errW_some] <;> rfl), (zb w)⟩

-- NOT PRINTED: function 77 (amount_isBody)

-- NOT PRINTED: function 78 (amount_bankRestOf)

-- NOT PRINTED: function 79 (amount_padded)

/-! ### amount_Completed: function 53 -/
def amount_Completed.l0 : Nat → Int → ByteArray → Int → Option (ByteArray × Int)
 | 0, _, _, _ => none
 | k + 1, x0, x1, x49 => if x49 < 10 then ((strconv_Itoa_52.f k x49).bind fun t477 => (if x1.size + t477.size ≤ 9223372036854775807 then ((amount_isNumber.f k x0 (x1 ++ t477)).bind fun t478 => (if t478 = true then (some (x1 ++ t477, 0)) else (amount_Completed.l0 k x0 x1 (wrap64 (x49 + 1))))) else (none))) else (some ((⟨#[]⟩ : ByteArray), 3))
def amount_Completed.f (k : Nat) (a0 : Int) (a1 : ByteArray) : Option (ByteArray × Int) := (amount_isKind.f a0).bind fun t476 => (if t476 = true then (if (a1.size : Int) > 34 then (none) else (if a0 = 4 then (none) else (amount_Completed.l0 k a0 a1 0))) else (none))
theorem amount_Completed.mono_l : ∀ k, (∀ y0 y1 y2, LeO (amount_Completed.l0 k y0 y1 y2) (amount_Completed.l0 (k + 1) y0 y1 y2))
 | 0 => fun _ _ _ r h => by simp [amount_Completed.l0] at h
 | k + 1 => by
  have ih0 := amount_Completed.mono_l k
  ·intro y0 y1 y2
   unfold amount_Completed.l0
   repeat' first | with_reducible first | exact ih0 _ _ _ | exact amount_isNumber.mono _ _ _ | exact strconv_Itoa_52.mono _ _ | exact lr _ | exact ln _ | refine li ?_ ?_ | refine lb ?_ fun _ => ?_ | exact ih0 _ _ _ | exact amount_isNumber.mono _ _ _ | exact strconv_Itoa_52.mono _ _ | exact ln _ | refine li ?_ ?_ | refine lb ?_ fun _ => ?_
theorem amount_Completed.mono : ∀ a0 a1 k, LeO (amount_Completed.f k a0 a1) (amount_Completed.f (k + 1) a0 a1) := by
 intro a0 a1 k
 have ih0 := amount_Completed.mono_l k
 unfold amount_Completed.f
 repeat' first | with_reducible first | exact ih0 _ _ _ | exact amount_isNumber.mono _ _ _ | exact strconv_Itoa_52.mono _ _ | exact lr _ | exact ln _ | refine li ?_ ?_ | refine lb ?_ fun _ => ?_ | exact ih0 _ _ _ | exact amount_isNumber.mono _ _ _ | exact strconv_Itoa_52.mono _ _ | exact ln _ | refine li ?_ ?_ | refine lb ?_ fun _ => ?_
set_option maxHeartbeats 8000000 in
set_option maxRecDepth 100000 in
theorem amount_Completed.calls (k : Nat) (a0 : Int) (a1 : ByteArray) (r1 : ByteArray) (r2 : Int) (w : World) (h : amount_Completed.f k a0 a1 = some (r1, r2)) :
  Calls Tryz.prog 53 #[.int .i64 a0, .string a1] w fun e w' => e = .returned (.tuple #[.string r1, .int .i64 r2]) ∧ Below w.heap.size w w' := by
 have HB := Aside0.mk (Below.refl w.heap.size w)
 have H := h
 unfold amount_Completed.f at H
 clear h
 replace H := Option.bind_eq_some_iff.mp H
 obtain ⟨t476, A30, H⟩ := H
 try dsimp only at H
 have A3 := Aside0.mk A30
 clear A30
 by_cases c4 : t476 = true
 ·subst c4
  have H1 : (if (a1.size : Int) > 34 then (none) else (if a0 = 4 then (none) else (amount_Completed.l0 k a0 a1 0))) = some (r1, r2) := by rw [if_pos rfl] at H; exact H
  clear H
  have H := H1
  clear H1
  by_cases c5 : (a1.size : Int) > 34
  ·rw [if_pos c5] at H
   exact absurd H (by simp)
  ·rw [if_neg c5] at H
   have c5b0 : decide (34 < (a1.size : Int)) = false := decide_eq_false c5
   have c5b1 : decide (34 < a1.size) = false := decide_eq_false (by omega)
   clear c5
   by_cases c6 : a0 = 4
   ·rw [if_pos c6] at H
    exact absurd H (by simp)
   ·rw [if_neg c6] at H
    have c6b0 : (a0 == 4) = false := beq_eq_false_iff_ne.mpr c6
    have c6b1 : (a0 != 4) = true := bne_iff_ne.mpr c6
    have H' := Aside0.mk H
    clear H
    go_enter Tryz.func53, Tryz.ntmps53
    go_wp2_with (first | ((with_reducible refine gC 76 rfl ?_); refine gl_ 11 Tryz.func76 #[.int .i64 a0] ?_; (with_reducible refine (amount_isKind.calls a0 true _ A3.out).mono ?_); rintro e w' ⟨rfl, ⟨nd, rfl⟩⟩; refine ⟨_, rfl, ?_⟩))
    try simp only [sq]
    go_loopg [49] k (fun kq v49 w' => ∃ (x49_1 : Int), v49 = .int .i64 x49_1 ∧ Aside0 (amount_Completed.l0 kq a0 a1 x49_1 = some (r1, r2)) ∧ Aside0 (kq ≤ k) ∧ Aside0 (Below w.heap.size w w'))
    case atStart => exact ⟨(0), ar, H', ⟨Nat.le_refl _⟩, ⟨(zb w)⟩⟩
    case round =>
     clear H'
     try clear p2
     try clear c4
     try clear c5
     try clear c5b0
     try clear c5b1
     try clear c6
     try clear c6b0
     try clear c6b1
     obtain ⟨x49_1, rfl, HA, HK1, HB⟩ := hrel
     cases gk with
     | zero => exact absurd HA.out (by simp [amount_Completed.l0])
     | succ k1 =>
      have H := HA.out
      clear HA
      simp only [amount_Completed.l0] at H
      by_cases c7 : x49_1 < 10
      ·rw [if_pos c7] at H
       have c7b0 : decide (x49_1 < 10) = true := decide_eq_true c7
       clear c7
       replace H := Option.bind_eq_some_iff.mp H
       obtain ⟨t477, A80, H⟩ := H
       try dsimp only at H
       have A8 := Aside0.mk A80
       clear A80
       by_cases c9 : a1.size + t477.size ≤ 9223372036854775807
       ·rw [if_pos c9] at H
        have c9b0 := eq_true c9
        have c9b1 : decide (a1.size + t477.size ≤ 9223372036854775807) = true := decide_eq_true c9
        try have c9b2 : (9223372036854775807 < a1.size + t477.size) = False := eq_false (Nat.not_lt.2 c9)
        replace H := Option.bind_eq_some_iff.mp H
        obtain ⟨t478, A100, H⟩ := H
        try dsimp only at H
        have A10 := Aside0.mk A100
        clear A100
        by_cases c11 : t478 = true
        ·subst c11
         have H1 : (some (a1 ++ t477, 0)) = some (r1, r2) := by rw [if_pos rfl] at H; exact H
         clear H
         have H := H1
         clear H1
         simp only [Option.some.injEq, Prod.mk.injEq] at H
         obtain ⟨rfl, rfl⟩ := H
         go_wp2_with (first | ((with_reducible refine gC 52 rfl ?_); refine gl_ 54 Tryz.func52 #[.int .i64 x49_1] ?_; (with_reducible refine (strconv_Itoa_52.calls k1 x49_1 t477 _ A8.out).mono ?_); rintro e w12 ⟨rfl, hb⟩; refine ⟨_, rfl, ?_⟩; replace HB := hs w hb; (try clear hb)) | ((with_reducible refine gC 81 rfl ?_); refine gl_ 58 Tryz.func81 #[.int .i64 a0, .string (a1 ++ t477)] ?_; (with_reducible refine (amount_isNumber.calls k1 a0 (a1 ++ t477) true _ A10.out).mono ?_); rintro e w13 ⟨rfl, hb⟩; refine ⟨_, rfl, ?_⟩; replace HB := hs w hb; (try clear hb)))
         go_ret2
         exact ⟨by first | rfl | (simp [errW_none, errW_some] <;> rfl) | (simp [*, errW_none, errW_some] <;> rfl), (zb w)⟩
        ·replace c11 := Bool.eq_false_iff.mpr c11
         subst c11
         have H1 : (amount_Completed.l0 k1 a0 a1 (wrap64 (x49_1 + 1))) = some (r1, r2) := by rw [if_neg (show ¬ (false = true) by decide)] at H; exact H
         clear H
         have H := H1
         clear H1
         have H' := Aside0.mk H
         clear H
         go_wp2_with (first | ((with_reducible refine gC 52 rfl ?_); refine gl_ 54 Tryz.func52 #[.int .i64 x49_1] ?_; (with_reducible refine (strconv_Itoa_52.calls k1 x49_1 t477 _ A8.out).mono ?_); rintro e w14 ⟨rfl, hb⟩; refine ⟨_, rfl, ?_⟩; replace HB := hs w hb; (try clear hb)) | ((with_reducible refine gC 81 rfl ?_); refine gl_ 58 Tryz.func81 #[.int .i64 a0, .string (a1 ++ t477)] ?_; (with_reducible refine (amount_isNumber.calls k1 a0 (a1 ++ t477) false _ A10.out).mono ?_); rintro e w15 ⟨rfl, hb⟩; refine ⟨_, rfl, ?_⟩; replace HB := hs w hb; (try clear hb)))
         go_roundg k1
         case measure => have := HK1.out; omega
         case rel => exact ⟨(wrap64 (x49_1 + 1)), ar, H', ⟨by have := HK1.out; omega⟩, ⟨(zb w)⟩⟩
       ·rw [if_neg c9] at H
        exact absurd H (by simp)
      ·rw [if_neg c7] at H
       have c7b0 : decide (x49_1 < 10) = false := decide_eq_false c7
       clear c7
       simp only [Option.some.injEq, Prod.mk.injEq] at H
       obtain ⟨rfl, rfl⟩ := H
       go_wp2
       go_ret2
       exact ⟨by first | rfl | (simp [errW_none, errW_some] <;> rfl) | (simp [*, errW_none, errW_some] <;> rfl), (zb w)⟩
 ·replace c4 := Bool.eq_false_iff.mpr c4
  subst c4
  have H1 : (none) = some (r1, r2) := by rw [if_neg (show ¬ (false = true) by decide)] at H; exact H
  clear H
  have H := H1
  clear H1
  exact absurd H (by simp)

/-! ### bits_Mul32: function 114 -/
def bits_Mul32.f (a0 : Int) (a1 : Int) : Option (Int × Int) := some (((IntKind.u64.wrap ((IntKind.u64.wrap (a0)) * (IntKind.u64.wrap (a1)))) / 4294967296) % 4294967296, (IntKind.u64.wrap ((IntKind.u64.wrap (a0)) * (IntKind.u64.wrap (a1)))) % 4294967296)
set_option maxHeartbeats 8000000 in
set_option maxRecDepth 100000 in
theorem bits_Mul32.calls (a0 : Int) (a1 : Int) (r1 : Int) (r2 : Int) (w : World) (h : bits_Mul32.f a0 a1 = some (r1, r2)) :
  Calls Tryz.prog 114 #[.int .u32 a0, .int .u32 a1] w fun e w' => e = .returned (.tuple #[.int .u32 r1, .int .u32 r2]) ∧ Drawn0 w w' := by
 have H := h
 unfold bits_Mul32.f at H
 clear h
 simp only [Option.some.injEq, Prod.mk.injEq] at H
 obtain ⟨rfl, rfl⟩ := H
 go_enter Tryz.func114, Tryz.ntmps114
 go_wp2
 go_ret2
 exact ⟨ar, dr⟩

/-! ### bits_Mul64: function 115 -/
def bits_Mul64.f (a0 : Int) (a1 : Int) : Option (Int × Int) := some (IntKind.u64.wrap ((IntKind.u64.wrap ((IntKind.u64.wrap ((a0 / 4294967296) * (a1 / 4294967296))) + ((IntKind.u64.wrap ((IntKind.u64.wrap ((a0 / 4294967296) * (Go.bits .and .u64 a1 4294967295))) + ((IntKind.u64.wrap ((Go.bits .and .u64 a0 4294967295) * (Go.bits .and .u64 a1 4294967295))) / 4294967296))) / 4294967296))) + ((IntKind.u64.wrap ((Go.bits .and .u64 (IntKind.u64.wrap ((IntKind.u64.wrap ((a0 / 4294967296) * (Go.bits .and .u64 a1 4294967295))) + ((IntKind.u64.wrap ((Go.bits .and .u64 a0 4294967295) * (Go.bits .and .u64 a1 4294967295))) / 4294967296))) 4294967295) + (IntKind.u64.wrap ((Go.bits .and .u64 a0 4294967295) * (a1 / 4294967296))))) / 4294967296)), IntKind.u64.wrap (a0 * a1))
set_option maxHeartbeats 8000000 in
set_option maxRecDepth 100000 in
theorem bits_Mul64.calls (a0 : Int) (a1 : Int) (r1 : Int) (r2 : Int) (w : World) (h : bits_Mul64.f a0 a1 = some (r1, r2)) :
  Calls Tryz.prog 115 #[.int .u64 a0, .int .u64 a1] w fun e w' => e = .returned (.tuple #[.int .u64 r1, .int .u64 r2]) ∧ Drawn0 w w' := by
 have H := h
 unfold bits_Mul64.f at H
 clear h
 simp only [Option.some.injEq, Prod.mk.injEq] at H
 obtain ⟨rfl, rfl⟩ := H
 go_enter Tryz.func115, Tryz.ntmps115
 go_wp2
 go_ret2
 exact ⟨ar, dr⟩

/-! ### bits_Mul: function 82 -/
def bits_Mul.f (a0 : Int) (a1 : Int) : Option (Int × Int) := (bits_Mul64.f a0 a1).bind fun bt479 => (some (bt479.1, bt479.2))
set_option maxHeartbeats 8000000 in
set_option maxRecDepth 100000 in
theorem bits_Mul.calls (a0 : Int) (a1 : Int) (r1 : Int) (r2 : Int) (w : World) (h : bits_Mul.f a0 a1 = some (r1, r2)) :
  Calls Tryz.prog 82 #[.int .u64 a0, .int .u64 a1] w fun e w' => e = .returned (.tuple #[.int .u64 r1, .int .u64 r2]) ∧ Drawn0 w w' := by
 have H := h
 unfold bits_Mul.f at H
 clear h
 replace H := Option.bind_eq_some_iff.mp H
 obtain ⟨⟨t479, t480⟩, A30, H⟩ := H
 try dsimp only at H
 have A3 := Aside0.mk A30
 clear A30
 simp only [Option.some.injEq, Prod.mk.injEq] at H
 obtain ⟨rfl, rfl⟩ := H
 go_enter Tryz.func82, Tryz.ntmps82
 go_wp2_with (first | ((with_reducible refine gC 115 rfl ?_); refine gl_ 25 Tryz.func115 #[.int .u64 a0, .int .u64 a1] ?_; (with_reducible refine (bits_Mul64.calls a0 a1 t479 t480 _ A3.out).mono ?_); rintro e w' ⟨rfl, ⟨nd, rfl⟩⟩; refine ⟨_, rfl, ?_⟩))
 go_ret2
 exact ⟨ar, dr⟩

end Go.Proofs.YthgefhnolmloiaaGreatDoor.P3
