import Derived.Test.YtaihfoihlbileaaGreatDoorF7d
set_option maxHeartbeats 8000000
set_option maxRecDepth 1000000
set_option linter.unusedVariables false
set_option linter.unusedSimpArgs false
set_option linter.unusedSectionVars false
namespace Go.Proofs.YtaihfoihlbileaaGreatDoor.R7
open Go.RowKit Go.Proofs.YtaihfoihlbileaaGreatDoorW.PrintWords Go.Proofs.YtaihfoihlbileaaGreatDoorW.PrintLast Go.Proofs.YtaihfoihlbileaaGreatDoorW.PrintMore
attribute [local go_sem] vZ vY vT yZ xH xG vz vX   
def jX.f (k : Nat) (s0_0 : ByteArray) (s0_1 : Int) (s0_2 : Int) (s0_3 : Int) (s0_4 : Int) (s0_5 : Int) (s0_6 : Int) (s0_7 : Int) (s0_8 : Int) (s0_9 : Int) (s0_10 : Int) : Option (Int × ByteArray × Int × Int × Int × Int × Int × Int × Int × Int × Int × Int) := (jD.f k (wrap64 (4 - s0_3))).bind fun t352 => (some (mn (wrap64 ((wrap64 (Int.tdiv (wrap64 (s0_2 * s0_6)) 1000)) * t352)) s0_7, s0_0, s0_1, s0_2, s0_3, s0_4, s0_5, s0_6, s0_7, s0_8, s0_9, s0_10))
theorem jX.calls (k : Nat) (g : Nat) (s0_0 : ByteArray) (s0_1 : Int) (s0_2 : Int) (s0_3 : Int) (s0_4 : Int) (s0_5 : Int) (s0_6 : Int) (s0_7 : Int) (s0_8 : Int) (s0_9 : Int) (s0_10 : Int) (r1 : Int) (r2 : ByteArray) (r3 : Int) (r4 : Int) (r5 : Int) (r6 : Int) (r7 : Int) (r8 : Int) (r9 : Int) (r10 : Int) (r11 : Int) (r12 : Int) (w0 w : World) (hI : xE w0 w g s0_0 s0_1 s0_2 s0_3 s0_4 s0_5 s0_6 s0_7 s0_8 s0_9 s0_10) (hB : Below w0.heap.size w0 w) (h : jX.f k s0_0 s0_1 s0_2 s0_3 s0_4 s0_5 s0_6 s0_7 s0_8 s0_9 s0_10 = some (r1, r2, r3, r4, r5, r6, r7, r8, r9, r10, r11, r12)) :
  Calls Tryz.prog 67 #[.pointer (some ⟨g, 0, none⟩)] w fun e w' => e = .returned (.int .i64 r1) ∧ xE w0 w' g r2 r3 r4 r5 r6 r7 r8 r9 r10 r11 r12 ∧ Below w0.heap.size w0 w' ∧ xV w w' g none := by
 have HI0 := zQ.mk hI
 have HK := zQ.mk (xV.refl w g none)
 have HL := zQ.mk hB.size
 clear hI
 have HW0 := zQ.mk hB.size
 have HB := zQ.mk hB
 clear hB
 have H := h
 unfold jX.f at H
 clear h
 replace H := Option.bind_eq_some_iff.mp H
 obtain ⟨t352, A20, H⟩ := H
 try dsimp only at H
 have A2 := zQ.mk A20
 clear A20
 obtain ⟨ji3, hji3⟩ : ∃ j_ : Int, (mn (wrap64 ((wrap64 (Int.tdiv (wrap64 (s0_2 * s0_6)) 1000)) * t352)) s0_7) = j_ := ⟨_, rfl⟩
 replace H : (some (ji3, s0_0, s0_1, s0_2, s0_3, s0_4, s0_5, s0_6, s0_7, s0_8, s0_9, s0_10)) = some (r1, r2, r3, r4, r5, r6, r7, r8, r9, r10, r11, r12) := by first | (rw [hji3] at H; exact H) | (simp only [hji3] at H ⊢; exact H)
 (try rw [hji3] at A2)
 have hji3_ : (if s0_7 < (wrap64 ((wrap64 (Int.tdiv (wrap64 (s0_2 * s0_6)) 1000)) * t352)) then s0_7 else (wrap64 ((wrap64 (Int.tdiv (wrap64 (s0_2 * s0_6)) 1000)) * t352))) = ji3 := hji3
 simp only [Option.some.injEq, Prod.mk.injEq] at H
 obtain ⟨rfl, rfl, rfl, rfl, rfl, rfl, rfl, rfl, rfl, rfl, rfl, rfl⟩ := H
 obtain ⟨HGz4, hgz4⟩ := HI0.out
 have hcz4_0 := zXj HGz4
 have hcz4_1 := ky HGz4
 have hcz4_2 := zXz HGz4
 have hcz4_3 := zXq HGz4
 have hcz4_4 := zJv HGz4
 have hcz4_5 := zQk HGz4
 have hcz4_6 := zWn HGz4
 have hcz4_7 := uK HGz4
 have hcz4_8 := zQj HGz4
 have hcz4_9 := zJk HGz4
 have hcz4_10 := uz HGz4
 have hfz4_0 := qX HGz4 0
 have hfz4_1 := qX HGz4 1
 have hfz4_2 := qX HGz4 2
 have hfz4_3 := qX HGz4 3
 have hfz4_4 := qX HGz4 4
 have hfz4_5 := qX HGz4 5
 have hfz4_6 := qX HGz4 6
 have hfz4_7 := qX HGz4 7
 have hfz4_8 := qX HGz4 8
 have hfz4_9 := qX HGz4 9
 have hfz4_10 := qX HGz4 10
 clear HGz4 hgz4
 go_enter Tryz.func67, Tryz.ntmps67
 go_wp2_with (first | (go_at_call 65; (with_reducible refine (jD.calls k (wrap64 (4 - s0_3)) t352 _ A2.out).mono ?_); rintro e w' ⟨rfl, ⟨nd, rfl⟩⟩; (try first | exact ⟨rfl, _, World.drewN_drewN _ _ _⟩ | exact ⟨rfl, _, Eq.trans (World.drewN_drewN _ _ _) (congrArg (World.drewN _) (Nat.add_assoc _ _ _))⟩)))
 repeat (go_quiet (first | (go_at_call 65; (with_reducible refine (jD.calls k (wrap64 (4 - s0_3)) t352 _ A2.out).mono ?_); rintro e w' ⟨rfl, ⟨nd, rfl⟩⟩; (try first | exact ⟨rfl, _, World.drewN_drewN _ _ _⟩ | exact ⟨rfl, _, Eq.trans (World.drewN_drewN _ _ _) (congrArg (World.drewN _) (Nat.add_assoc _ _ _))⟩))); try go_wp2_with (first | (go_at_call 65; (with_reducible refine (jD.calls k (wrap64 (4 - s0_3)) t352 _ A2.out).mono ?_); rintro e w' ⟨rfl, ⟨nd, rfl⟩⟩; (try first | exact ⟨rfl, _, World.drewN_drewN _ _ _⟩ | exact ⟨rfl, _, Eq.trans (World.drewN_drewN _ _ _) (congrArg (World.drewN _) (Nat.add_assoc _ _ _))⟩))))
 go_ret
 exact ⟨by first | rfl | (simp [zq, zY] <;> rfl) | (simp only [← hji3]; first | rfl | (simp [zq, zY] <;> rfl)) | (simp [*, zq, zY] <;> rfl), by repeat (first | (with_reducible first | exact HI0.out | apply xE.alloc | apply xE.drewN | apply xE.drew | apply xE.set_0 | apply xE.set_1 | apply xE.set_2 | apply xE.set_3 | apply xE.set_4 | apply xE.set_5 | apply xE.set_6 | apply xE.set_7 | apply xE.set_8 | apply xE.set_9 | apply xE.set_10) | exact HI0.out), by repeat (first | (with_reducible first | exact HB.out | apply vV | apply qM | apply qD | refine jG ?_ (xE.ge HI0.out)) | exact HB.out), by repeat (first | (with_reducible first | exact HK.out | apply xV.set_ | apply zJh | apply keep_drew | apply keep_alloc) | exact HK.out)⟩
mutual
def zG.j0 : Nat → ByteArray → Bool → Option (Bool)
 | 0, _, _ => none
 | k + 1, x0, x21 => if x21 = true then (some false) else (zG.l0 k x0 (x0.size : Int) 0)
def zG.l0 : Nat → ByteArray → Int → Int → Option (Bool)
 | 0, _, _, _ => none
 | k + 1, x0, x23, x24 => if x24 < x23 then (if 0 ≤ x24 then (if x24 < (x0.size : Int) then (if (bt x0 x24) < 97 then (if (bt x0 x24) < 48 then (if (bt x0 x24) = 45 then (zG.l0 k x0 x23 (wrap64 (x24 + 1))) else (some false)) else (if (bt x0 x24) > 57 then (if (bt x0 x24) = 45 then (zG.l0 k x0 x23 (wrap64 (x24 + 1))) else (some false)) else (zG.l0 k x0 x23 (wrap64 (x24 + 1))))) else (if (bt x0 x24) > 122 then (if (bt x0 x24) < 48 then (if (bt x0 x24) = 45 then (zG.l0 k x0 x23 (wrap64 (x24 + 1))) else (some false)) else (if (bt x0 x24) > 57 then (if (bt x0 x24) = 45 then (zG.l0 k x0 x23 (wrap64 (x24 + 1))) else (some false)) else (zG.l0 k x0 x23 (wrap64 (x24 + 1))))) else (zG.l0 k x0 x23 (wrap64 (x24 + 1))))) else (none)) else (none)) else (some true)
end
def zG.f (k : Nat) (a0 : ByteArray) : Option (Bool) := if a0.toList = ([] : List UInt8) then (zG.j0 k a0 true) else (if (a0.size : Int) > 40 then (zG.j0 k a0 true) else (if 0 < (a0.size : Int) then (if (bt a0 0) < 97 then (zG.j0 k a0 true) else (zG.j0 k a0 (decide ((bt a0 0) > 122)))) else (none)))
theorem zG.calls (k : Nat) (a0 : ByteArray) (r : Bool) (w : World) (h : zG.f k a0 = some r) :
  Calls Tryz.prog 50 #[.string a0] w fun e w' => e = .returned (.bool r) ∧ vS w w' := by
 have H := h
 unfold zG.f at H
 clear h
 have HC2 := zQ.mk H
 clear H
 go_enter Tryz.func50, Tryz.ntmps50
 go_upto_region 1 with (fail)
 go_cut [21] (fun v21 wc => ∃ (kq : Nat) (x21_1 : Bool), v21 = .bool x21_1 ∧ zQ (zG.j0 kq a0 x21_1 = some r) ∧ zQ (kq ≤ k) ∧ vS w wc)
 case first =>
  have H := HC2.out
  clear HC2
  by_cases c3 : a0.toList = ([] : List UInt8)
  ·rw [if_pos c3] at H
   have c3b0 : (a0.toList == ([] : List UInt8)) = true := beq_iff_eq.mpr c3
   have c3b1 : (a0.toList != ([] : List UInt8)) = false := bne_eq_false_iff_eq.mpr c3
   clear c3
   (first | rw [c3b0] | (simp only [jw, vL]; rw [c3b0]) | skip)
   have H' := zQ.mk H
   clear H
   go_wp2
   go_meet
   case rel => exact ⟨_, (true), ar, H', ⟨by first | omega | exact Nat.le_refl _⟩, dr⟩
  ·rw [if_neg c3] at H
   have c3b0 : (a0.toList == ([] : List UInt8)) = false := beq_eq_false_iff_ne.mpr c3
   have c3b1 : (a0.toList != ([] : List UInt8)) = true := bne_iff_ne.mpr c3
   (first | rw [c3b0] | (simp only [jw, vL]; rw [c3b0]) | skip)
   by_cases c4 : (a0.size : Int) > 40
   ·rw [if_pos c4] at H
    have c4b0 : decide (40 < (a0.size : Int)) = true := decide_eq_true c4
    have c4b1 : decide (40 < a0.size) = true := decide_eq_true (by omega)
    clear c4
    have H' := zQ.mk H
    clear H
    go_wp2
    go_meet
    case rel => exact ⟨_, (true), ar, H', ⟨by first | omega | exact Nat.le_refl _⟩, dr⟩
   ·rw [if_neg c4] at H
    have c4b0 : decide (40 < (a0.size : Int)) = false := decide_eq_false c4
    have c4b1 : decide (40 < a0.size) = false := decide_eq_false (by omega)
    clear c4
    by_cases c5 : 0 < (a0.size : Int)
    ·rw [if_pos c5] at H
     have c5b0 : decide (0 < (a0.size : Int)) = true := decide_eq_true c5
     have c5b1 : decide (0 < a0.size) = true := decide_eq_true (by omega)
     clear c5
     by_cases c7 : (bt a0 0) < 97
     ·rw [if_pos c7] at H
      have c7b0 : decide ((bt a0 0) < 97) = true := decide_eq_true c7
      clear c7
      have H' := zQ.mk H
      clear H
      have p6 : 0 ≤ (0 : Int) := (by omega)
      have q6 : 0 < a0.size := (by have : (0 : Int) < (a0.size : Int) := of_decide_eq_true (by assumption); omega)
      have hx6 : ∀ h : 0 < a0.size, ((a0[0]'h).toNat : Int) = bt a0 0 := kM a0 0
      clear p6
      have qi6 : (0 < (a0.size : Int)) = True := eq_true (of_decide_eq_true (by assumption))
      replace q6 := eq_true q6
      go_wp2
      go_meet
      case rel => exact ⟨_, (true), ar, H', ⟨by first | omega | exact Nat.le_refl _⟩, dr⟩
     ·rw [if_neg c7] at H
      have c7b0 : decide ((bt a0 0) < 97) = false := decide_eq_false c7
      clear c7
      have H' := zQ.mk H
      clear H
      have p6 : 0 ≤ (0 : Int) := (by omega)
      have q6 : 0 < a0.size := (by have : (0 : Int) < (a0.size : Int) := of_decide_eq_true (by assumption); omega)
      have hx6 : ∀ h : 0 < a0.size, ((a0[0]'h).toNat : Int) = bt a0 0 := kM a0 0
      clear p6
      have qi6 : (0 < (a0.size : Int)) = True := eq_true (of_decide_eq_true (by assumption))
      replace q6 := eq_true q6
      have p8 : 0 ≤ (0 : Int) := (by omega)
      have q8 : 0 < a0.size := (by have : (0 : Int) < (a0.size : Int) := of_decide_eq_true (by assumption); omega)
      have hx8 : ∀ h : 0 < a0.size, ((a0[0]'h).toNat : Int) = bt a0 0 := kM a0 0
      clear p8
      have qi8 : (0 < (a0.size : Int)) = True := eq_true (of_decide_eq_true (by assumption))
      replace q8 := eq_true q8
      go_wp2
      go_meet
      case rel => exact ⟨_, (decide ((bt a0 0) > 122)), ar, H', ⟨by first | omega | exact Nat.le_refl _⟩, dr⟩
    ·rw [if_neg c5] at H
     exact absurd H (by simp)
 case rest =>
  clear HC2
  try clear p2
  try clear c3
  try clear c3b0
  try clear c3b1
  try clear c4
  try clear c4b0
  try clear c4b1
  try clear c5
  try clear c5b0
  try clear c5b1
  try clear p6
  try clear q6
  try clear hx6
  try clear qi6
  try clear c7
  try clear c7b0
  try clear p8
  try clear q8
  try clear hx8
  try clear qi8
  try clear p6
  try clear p8
  try clear q6
  try clear q8
  obtain ⟨kq, x21_1, rfl, HA, HJ1, ⟨mc1, rfl⟩⟩ := hcut
  cases kq with
  | zero => exact absurd HA.out (by simp [zG.j0])
  | succ kj1 =>
   have H := HA.out
   clear HA
   simp only [zG.j0] at H
   by_cases c9 : x21_1 = true
   ·subst c9
    have H1 : (some false) = some r := by rw [if_pos rfl] at H; exact H
    clear H
    have H := H1
    clear H1
    obtain rfl := Option.some.inj H
    go_wp2
    go_ret
    exact ⟨ar, dr⟩
   ·replace c9 := Bool.eq_false_iff.mpr c9
    subst c9
    have H1 : (zG.l0 kj1 a0 (a0.size : Int) 0) = some r := by rw [if_neg (show ¬ (false = true) by decide)] at H; exact H
    clear H
    have H := H1
    clear H1
    have H' := zQ.mk H
    clear H
    go_wp2
    try simp only [sq]
    go_loopg [24] kj1 (fun kq v24 w' => ∃ (x24_2 : Int), v24 = .int .i64 x24_2 ∧ zQ (zG.l0 kq a0 (a0.size : Int) x24_2 = some r) ∧ zQ (kq ≤ kj1) ∧ vS w w')
    case atStart => exact ⟨(0), ar, H', ⟨Nat.le_refl _⟩, dr⟩
    case round =>
     clear H'
     try clear c1
     try clear p2
     try clear c3
     try clear c3b0
     try clear c3b1
     try clear c4
     try clear c4b0
     try clear c4b1
     try clear c5
     try clear c5b0
     try clear c5b1
     try clear p6
     try clear q6
     try clear hx6
     try clear qi6
     try clear c7
     try clear c7b0
     try clear p8
     try clear q8
     try clear hx8
     try clear qi8
     try clear c9
     try clear p2
     try clear p6
     try clear p8
     try clear q6
     try clear q8
     obtain ⟨x24_2, rfl, HA, HK2, ⟨m2, rfl⟩⟩ := hrel
     cases gk with
     | zero => exact absurd HA.out (by simp [zG.l0])
     | succ k2 =>
      have H := HA.out
      clear HA
      simp only [zG.l0] at H
      by_cases c10 : x24_2 < (a0.size : Int)
      ·rw [if_pos c10] at H
       have c10b0 : decide (x24_2 < (a0.size : Int)) = true := decide_eq_true c10
       clear c10
       by_cases c11 : 0 ≤ x24_2
       ·rw [if_pos c11] at H
        have c11b0 : decide (0 ≤ x24_2) = true := decide_eq_true c11
        clear c11
        by_cases c12 : x24_2 < (a0.size : Int)
        ·rw [if_pos c12] at H
         have c12b0 : decide (x24_2 < (a0.size : Int)) = true := decide_eq_true c12
         clear c12
         by_cases c14 : (bt a0 x24_2) < 97
         ·rw [if_pos c14] at H
          have c14b0 : decide ((bt a0 x24_2) < 97) = true := decide_eq_true c14
          clear c14
          by_cases c15 : (bt a0 x24_2) < 48
          ·rw [if_pos c15] at H
           have c15b0 : decide ((bt a0 x24_2) < 48) = true := decide_eq_true c15
           clear c15
           by_cases c16 : (bt a0 x24_2) = 45
           ·rw [if_pos c16] at H
            have c16b0 : ((bt a0 x24_2) == 45) = true := beq_iff_eq.mpr c16
            have c16b1 : ((bt a0 x24_2) != 45) = false := bne_eq_false_iff_eq.mpr c16
            clear c16
            have H' := zQ.mk H
            clear H
            have p13 : 0 ≤ (x24_2 : Int) := of_decide_eq_true (by assumption)
            have q13 : x24_2 < (a0.size : Int) := of_decide_eq_true (by assumption)
            have hx13 := kM a0 x24_2
            replace p13 := eq_true p13
            replace q13 := eq_true q13
            go_wp2
            go_roundg k2
            case measure => have := HJ1.out; have := HK2.out; omega
            case rel => exact ⟨(wrap64 (x24_2 + 1)), ar, H', ⟨by have := HJ1.out; have := HK2.out; omega⟩, dr⟩
           ·rw [if_neg c16] at H
            have c16b0 : ((bt a0 x24_2) == 45) = false := beq_eq_false_iff_ne.mpr c16
            have c16b1 : ((bt a0 x24_2) != 45) = true := bne_iff_ne.mpr c16
            obtain rfl := Option.some.inj H
            have p13 : 0 ≤ (x24_2 : Int) := of_decide_eq_true (by assumption)
            have q13 : x24_2 < (a0.size : Int) := of_decide_eq_true (by assumption)
            have hx13 := kM a0 x24_2
            replace p13 := eq_true p13
            replace q13 := eq_true q13
            go_wp2
            go_ret
            exact ⟨ar, dr⟩
          ·rw [if_neg c15] at H
           have c15b0 : decide ((bt a0 x24_2) < 48) = false := decide_eq_false c15
           clear c15
           by_cases c17 : (bt a0 x24_2) > 57
           ·rw [if_pos c17] at H
            have c17b0 : decide (57 < (bt a0 x24_2)) = true := decide_eq_true c17
            clear c17
            by_cases c18 : (bt a0 x24_2) = 45
            ·rw [if_pos c18] at H
             have c18b0 : ((bt a0 x24_2) == 45) = true := beq_iff_eq.mpr c18
             have c18b1 : ((bt a0 x24_2) != 45) = false := bne_eq_false_iff_eq.mpr c18
             clear c18
             have H' := zQ.mk H
             clear H
             have p13 : 0 ≤ (x24_2 : Int) := of_decide_eq_true (by assumption)
             have q13 : x24_2 < (a0.size : Int) := of_decide_eq_true (by assumption)
             have hx13 := kM a0 x24_2
             replace p13 := eq_true p13
             replace q13 := eq_true q13
             go_wp2
             go_roundg k2
             case measure => have := HJ1.out; have := HK2.out; omega
             case rel => exact ⟨(wrap64 (x24_2 + 1)), ar, H', ⟨by have := HJ1.out; have := HK2.out; omega⟩, dr⟩
            ·rw [if_neg c18] at H
             have c18b0 : ((bt a0 x24_2) == 45) = false := beq_eq_false_iff_ne.mpr c18
             have c18b1 : ((bt a0 x24_2) != 45) = true := bne_iff_ne.mpr c18
             obtain rfl := Option.some.inj H
             have p13 : 0 ≤ (x24_2 : Int) := of_decide_eq_true (by assumption)
             have q13 : x24_2 < (a0.size : Int) := of_decide_eq_true (by assumption)
             have hx13 := kM a0 x24_2
             replace p13 := eq_true p13
             replace q13 := eq_true q13
             go_wp2
             go_ret
             exact ⟨ar, dr⟩
           ·rw [if_neg c17] at H
            have c17b0 : decide (57 < (bt a0 x24_2)) = false := decide_eq_false c17
            clear c17
            have H' := zQ.mk H
            clear H
            have p13 : 0 ≤ (x24_2 : Int) := of_decide_eq_true (by assumption)
            have q13 : x24_2 < (a0.size : Int) := of_decide_eq_true (by assumption)
            have hx13 := kM a0 x24_2
            replace p13 := eq_true p13
            replace q13 := eq_true q13
            go_wp2
            go_roundg k2
            case measure => have := HJ1.out; have := HK2.out; omega
            case rel => exact ⟨(wrap64 (x24_2 + 1)), ar, H', ⟨by have := HJ1.out; have := HK2.out; omega⟩, dr⟩
         ·rw [if_neg c14] at H
          have c14b0 : decide ((bt a0 x24_2) < 97) = false := decide_eq_false c14
          clear c14
          by_cases c19 : (bt a0 x24_2) > 122
          ·rw [if_pos c19] at H
           have c19b0 : decide (122 < (bt a0 x24_2)) = true := decide_eq_true c19
           clear c19
           by_cases c20 : (bt a0 x24_2) < 48
           ·rw [if_pos c20] at H
            have c20b0 : decide ((bt a0 x24_2) < 48) = true := decide_eq_true c20
            clear c20
            by_cases c21 : (bt a0 x24_2) = 45
            ·rw [if_pos c21] at H
             have c21b0 : ((bt a0 x24_2) == 45) = true := beq_iff_eq.mpr c21
             have c21b1 : ((bt a0 x24_2) != 45) = false := bne_eq_false_iff_eq.mpr c21
             clear c21
             have H' := zQ.mk H
             clear H
             have p13 : 0 ≤ (x24_2 : Int) := of_decide_eq_true (by assumption)
             have q13 : x24_2 < (a0.size : Int) := of_decide_eq_true (by assumption)
             have hx13 := kM a0 x24_2
             replace p13 := eq_true p13
             replace q13 := eq_true q13
             go_wp2
             go_roundg k2
             case measure => have := HJ1.out; have := HK2.out; omega
             case rel => exact ⟨(wrap64 (x24_2 + 1)), ar, H', ⟨by have := HJ1.out; have := HK2.out; omega⟩, dr⟩
            ·rw [if_neg c21] at H
             have c21b0 : ((bt a0 x24_2) == 45) = false := beq_eq_false_iff_ne.mpr c21
             have c21b1 : ((bt a0 x24_2) != 45) = true := bne_iff_ne.mpr c21
             obtain rfl := Option.some.inj H
             have p13 : 0 ≤ (x24_2 : Int) := of_decide_eq_true (by assumption)
             have q13 : x24_2 < (a0.size : Int) := of_decide_eq_true (by assumption)
             have hx13 := kM a0 x24_2
             replace p13 := eq_true p13
             replace q13 := eq_true q13
             go_wp2
             go_ret
             exact ⟨ar, dr⟩
           ·rw [if_neg c20] at H
            have c20b0 : decide ((bt a0 x24_2) < 48) = false := decide_eq_false c20
            clear c20
            by_cases c22 : (bt a0 x24_2) > 57
            ·rw [if_pos c22] at H
             have c22b0 : decide (57 < (bt a0 x24_2)) = true := decide_eq_true c22
             clear c22
             by_cases c23 : (bt a0 x24_2) = 45
             ·rw [if_pos c23] at H
              have c23b0 : ((bt a0 x24_2) == 45) = true := beq_iff_eq.mpr c23
              have c23b1 : ((bt a0 x24_2) != 45) = false := bne_eq_false_iff_eq.mpr c23
              clear c23
              have H' := zQ.mk H
              clear H
              have p13 : 0 ≤ (x24_2 : Int) := of_decide_eq_true (by assumption)
              have q13 : x24_2 < (a0.size : Int) := of_decide_eq_true (by assumption)
              have hx13 := kM a0 x24_2
              replace p13 := eq_true p13
              replace q13 := eq_true q13
              go_wp2
              go_roundg k2
              case measure => have := HJ1.out; have := HK2.out; omega
              case rel => exact ⟨(wrap64 (x24_2 + 1)), ar, H', ⟨by have := HJ1.out; have := HK2.out; omega⟩, dr⟩
             ·rw [if_neg c23] at H
              have c23b0 : ((bt a0 x24_2) == 45) = false := beq_eq_false_iff_ne.mpr c23
              have c23b1 : ((bt a0 x24_2) != 45) = true := bne_iff_ne.mpr c23
              obtain rfl := Option.some.inj H
              have p13 : 0 ≤ (x24_2 : Int) := of_decide_eq_true (by assumption)
              have q13 : x24_2 < (a0.size : Int) := of_decide_eq_true (by assumption)
              have hx13 := kM a0 x24_2
              replace p13 := eq_true p13
              replace q13 := eq_true q13
              go_wp2
              go_ret
              exact ⟨ar, dr⟩
            ·rw [if_neg c22] at H
             have c22b0 : decide (57 < (bt a0 x24_2)) = false := decide_eq_false c22
             clear c22
             have H' := zQ.mk H
             clear H
             have p13 : 0 ≤ (x24_2 : Int) := of_decide_eq_true (by assumption)
             have q13 : x24_2 < (a0.size : Int) := of_decide_eq_true (by assumption)
             have hx13 := kM a0 x24_2
             replace p13 := eq_true p13
             replace q13 := eq_true q13
             go_wp2
             go_roundg k2
             case measure => have := HJ1.out; have := HK2.out; omega
             case rel => exact ⟨(wrap64 (x24_2 + 1)), ar, H', ⟨by have := HJ1.out; have := HK2.out; omega⟩, dr⟩
          ·rw [if_neg c19] at H
           have c19b0 : decide (122 < (bt a0 x24_2)) = false := decide_eq_false c19
           clear c19
           have H' := zQ.mk H
           clear H
           have p13 : 0 ≤ (x24_2 : Int) := of_decide_eq_true (by assumption)
           have q13 : x24_2 < (a0.size : Int) := of_decide_eq_true (by assumption)
           have hx13 := kM a0 x24_2
           replace p13 := eq_true p13
           replace q13 := eq_true q13
           go_wp2
           go_roundg k2
           case measure => have := HJ1.out; have := HK2.out; omega
           case rel => exact ⟨(wrap64 (x24_2 + 1)), ar, H', ⟨by have := HJ1.out; have := HK2.out; omega⟩, dr⟩
        ·rw [if_neg c12] at H
         exact absurd H (by simp)
       ·rw [if_neg c11] at H
        exact absurd H (by simp)
      ·rw [if_neg c10] at H
       have c10b0 : decide (x24_2 < (a0.size : Int)) = false := decide_eq_false c10
       clear c10
       obtain rfl := Option.some.inj H
       go_wp2
       go_ret
       exact ⟨ar, dr⟩
def zS.f (k : Nat) (a0 : ByteArray) : Option (Bool) := (zG.f k a0).bind fun t353 => (some t353)
theorem zS.calls (k : Nat) (a0 : ByteArray) (r : Bool) (w : World) (h : zS.f k a0 = some r) :
  Calls Tryz.prog 25 #[.string a0] w fun e w' => e = .returned (.bool r) ∧ vS w w' := by
 have H := h
 unfold zS.f at H
 clear h
 replace H := Option.bind_eq_some_iff.mp H
 obtain ⟨t353, A20, H⟩ := H
 try dsimp only at H
 have A2 := zQ.mk A20
 clear A20
 obtain rfl := Option.some.inj H
 go_enter Tryz.func25, Tryz.ntmps25
 go_wp2_with (first | ((with_reducible refine gC 50 rfl ?_); refine gl_ 4 Tryz.func50 #[.string a0] ?_; (with_reducible refine (zG.calls k a0 t353 _ A2.out).mono ?_); rintro e w' ⟨rfl, ⟨nd, rfl⟩⟩; refine ⟨_, rfl, ?_⟩))
 go_ret
 exact ⟨ar, dr⟩
def qy.f (a0 : Int) (a1 : Int) (a2 : Int) : Option (Bool) := if a1 ≤ a0 then (some (decide (a0 ≤ a2))) else (some false)
theorem qy.calls (a0 : Int) (a1 : Int) (a2 : Int) (r : Bool) (w : World) (h : qy.f a0 a1 a2 = some r) :
  Calls Tryz.prog 68 #[.int .i64 a0, .int .i64 a1, .int .i64 a2] w fun e w' => e = .returned (.bool r) ∧ vS w w' := by
 have H := h
 unfold qy.f at H
 clear h
 by_cases c4 : a1 ≤ a0
 ·rw [if_pos c4] at H
  have c4b0 : decide (a1 ≤ a0) = true := decide_eq_true c4
  clear c4
  obtain rfl := Option.some.inj H
  go_enter Tryz.func68, Tryz.ntmps68
  go_wp2
  go_ret
  exact ⟨ar, dr⟩
 ·rw [if_neg c4] at H
  have c4b0 : decide (a1 ≤ a0) = false := decide_eq_false c4
  clear c4
  obtain rfl := Option.some.inj H
  go_enter Tryz.func68, Tryz.ntmps68
  go_wp2
  go_ret
  exact ⟨ar, dr⟩
def xk.f (a0 : Int) : Option (Bool) := (qy.f a0 1 3652059).bind fun t354 => (some t354)
theorem xk.calls (a0 : Int) (r : Bool) (w : World) (h : xk.f a0 = some r) :
  Calls Tryz.prog 51 #[.int .i64 a0] w fun e w' => e = .returned (.bool r) ∧ vS w w' := by
 have H := h
 unfold xk.f at H
 clear h
 replace H := Option.bind_eq_some_iff.mp H
 obtain ⟨t354, A20, H⟩ := H
 try dsimp only at H
 have A2 := zQ.mk A20
 clear A20
 obtain rfl := Option.some.inj H
 go_enter Tryz.func51, Tryz.ntmps51
 go_wp2_with (first | ((with_reducible refine gC 68 rfl ?_); refine gl_ 4 Tryz.func68 #[.int .i64 a0, .int .i64 1, .int .i64 3652059] ?_; (with_reducible refine (qy.calls a0 1 3652059 t354 _ A2.out).mono ?_); rintro e w' ⟨rfl, ⟨nd, rfl⟩⟩; refine ⟨_, rfl, ?_⟩))
 go_ret
 exact ⟨ar, dr⟩
def qZ.f (a0 : Int) : Option (Bool) := (xk.f a0).bind fun t355 => (some t355)
theorem qZ.calls (a0 : Int) (r : Bool) (w : World) (h : qZ.f a0 = some r) :
  Calls Tryz.prog 26 #[.int .i64 a0] w fun e w' => e = .returned (.bool r) ∧ vS w w' := by
 have H := h
 unfold qZ.f at H
 clear h
 replace H := Option.bind_eq_some_iff.mp H
 obtain ⟨t355, A20, H⟩ := H
 try dsimp only at H
 have A2 := zQ.mk A20
 clear A20
 obtain rfl := Option.some.inj H
 go_enter Tryz.func26, Tryz.ntmps26
 go_wp2_with (first | ((with_reducible refine gC 51 rfl ?_); refine gl_ 4 Tryz.func51 #[.int .i64 a0] ?_; (with_reducible refine (xk.calls a0 t355 _ A2.out).mono ?_); rintro e w' ⟨rfl, ⟨nd, rfl⟩⟩; refine ⟨_, rfl, ?_⟩))
 go_ret
 exact ⟨ar, dr⟩
def qP.f (a0_0 : Int) (a0_1 : Int) : Option (Int) := (qy.f a0_0 (-1000000000000000) 1000000000000000).bind fun t357 => (if t357 = true then ((qy.f a0_1 0 9).bind fun t358 => (if t358 = true then (some 0) else (some 1))) else (some 1))
theorem qP.calls (a0_0 : Int) (a0_1 : Int) (r : Int) (w : World) (h : qP.f a0_0 a0_1 = some r) :
  Calls Tryz.prog 69 #[.agg #[.int .i64 a0_0, .int .i64 a0_1]] w fun e w' => e = .returned (.int .i64 r) ∧ Below w.heap.size w w' := by
 have hu33 := Tryz.underlying33
 have HB := zQ.mk (Below.refl w.heap.size w)
 have H := h
 unfold qP.f at H
 clear h
 replace H := Option.bind_eq_some_iff.mp H
 obtain ⟨t357, A20, H⟩ := H
 try dsimp only at H
 have A2 := zQ.mk A20
 clear A20
 by_cases c3 : t357 = true
 ·subst c3
  have H1 : ((qy.f a0_1 0 9).bind fun t358 => (if t358 = true then (some 0) else (some 1))) = some r := by rw [if_pos rfl] at H; exact H
  clear H
  have H := H1
  clear H1
  replace H := Option.bind_eq_some_iff.mp H
  obtain ⟨t358, A40, H⟩ := H
  try dsimp only at H
  have A4 := zQ.mk A40
  clear A40
  by_cases c5 : t358 = true
  ·subst c5
   have H1 : (some 0) = some r := by rw [if_pos rfl] at H; exact H
   clear H
   have H := H1
   clear H1
   obtain rfl := Option.some.inj H
   go_enter Tryz.func69, Tryz.ntmps69
   go_wp2_with (first | ((with_reducible refine gD 1 rfl ?_); refine bx w 1 #[.int .i64 a0_0, .int .i64 a0_1] 33 ?_; intro gb356 hg w6 hb BK356 GW356 GE356; clear HB; intro HB; clear hb hg; obtain ⟨hcz7_0, hcz7_1, hfz7_0, hfz7_1⟩ := cz2 BK356) | ((with_reducible refine gC 68 rfl ?_); refine gl_ 5 Tryz.func68 #[.int .i64 a0_0, .int .i64 (-1000000000000000), .int .i64 1000000000000000] ?_; (with_reducible refine (qy.calls a0_0 (-1000000000000000) 1000000000000000 true _ A2.out).mono ?_); rintro e w' ⟨rfl, ⟨nd, rfl⟩⟩; refine ⟨_, rfl, ?_⟩) | (go_at_call 68; (with_reducible refine (qy.calls a0_1 0 9 true _ A4.out).mono ?_); rintro e w' ⟨rfl, ⟨nd, rfl⟩⟩))
   go_ret
   exact ⟨by first | rfl | (simp [zq, zY] <;> rfl) | (simp [*, zq, zY] <;> rfl), (zb w)⟩
  ·replace c5 := Bool.eq_false_iff.mpr c5
   subst c5
   have H1 : (some 1) = some r := by rw [if_neg (show ¬ (false = true) by decide)] at H; exact H
   clear H
   have H := H1
   clear H1
   obtain rfl := Option.some.inj H
   go_enter Tryz.func69, Tryz.ntmps69
   go_wp2_with (first | ((with_reducible refine gD 1 rfl ?_); refine bx w 1 #[.int .i64 a0_0, .int .i64 a0_1] 33 ?_; intro gb356 hg w8 hb BK356 GW356 GE356; clear HB; intro HB; clear hb hg; obtain ⟨hcz9_0, hcz9_1, hfz9_0, hfz9_1⟩ := cz2 BK356) | ((with_reducible refine gC 68 rfl ?_); refine gl_ 5 Tryz.func68 #[.int .i64 a0_0, .int .i64 (-1000000000000000), .int .i64 1000000000000000] ?_; (with_reducible refine (qy.calls a0_0 (-1000000000000000) 1000000000000000 true _ A2.out).mono ?_); rintro e w' ⟨rfl, ⟨nd, rfl⟩⟩; refine ⟨_, rfl, ?_⟩) | (go_at_call 68; (with_reducible refine (qy.calls a0_1 0 9 false _ A4.out).mono ?_); rintro e w' ⟨rfl, ⟨nd, rfl⟩⟩))
   go_ret
   exact ⟨by first | rfl | (simp [zq, zY] <;> rfl) | (simp [*, zq, zY] <;> rfl), (zb w)⟩
 ·replace c3 := Bool.eq_false_iff.mpr c3
  subst c3
  have H1 : (some 1) = some r := by rw [if_neg (show ¬ (false = true) by decide)] at H; exact H
  clear H
  have H := H1
  clear H1
  obtain rfl := Option.some.inj H
  go_enter Tryz.func69, Tryz.ntmps69
  go_wp2_with (first | ((with_reducible refine gD 1 rfl ?_); refine bx w 1 #[.int .i64 a0_0, .int .i64 a0_1] 33 ?_; intro gb356 hg w10 hb BK356 GW356 GE356; clear HB; intro HB; clear hb hg; obtain ⟨hcz11_0, hcz11_1, hfz11_0, hfz11_1⟩ := cz2 BK356) | ((with_reducible refine gC 68 rfl ?_); refine gl_ 5 Tryz.func68 #[.int .i64 a0_0, .int .i64 (-1000000000000000), .int .i64 1000000000000000] ?_; (with_reducible refine (qy.calls a0_0 (-1000000000000000) 1000000000000000 false _ A2.out).mono ?_); rintro e w' ⟨rfl, ⟨nd, rfl⟩⟩; refine ⟨_, rfl, ?_⟩))
  go_ret
  exact ⟨by first | rfl | (simp [zq, zY] <;> rfl) | (simp [*, zq, zY] <;> rfl), (zb w)⟩
mutual
def zV.l0 : Nat → List Int → Int → Int → Bool → List Int → Bool → List Int → Option (Bool × List Int)
 | 0, _, _, _, _, _, _, _ => none
 | k + 1, x27, x28, x29, x361000, x361001, x366000, x366001 => if x29 < x28 then (if 0 ≤ x29 then (if x29 < (x27.length : Int) then (zV.l1 k x29 (rd x27 x29) x27 x28 x29 x361001 (x361001.length : Int) 0 x361000 x361001 x366000 x366001) else (none)) else (none)) else (zV.l2 k (wrap64 ((x366001.length : Int) - 1)) 0 x366000 x366001)
def zV.l1 : Nat → Int → Int → List Int → Int → Int → List Int → Int → Int → Bool → List Int → Bool → List Int → Option (Bool × List Int)
 | 0, _, _, _, _, _, _, _, _, _, _, _, _ => none
 | k + 1, x6, x7, x27, x28, x29, x35, x36, x37, x361000, x361001, x366000, x366001 => if x37 < x36 then (if 0 ≤ x37 then (if x37 < (x35.length : Int) then (if 0 ≤ (wrap64 (x6 + x37)) then (if (wrap64 (x6 + x37)) < (x366001.length : Int) then ((some (x366001.set ((wrap64 (x6 + x37)) : Int).toNat (wrap64 ((rd x366001 (wrap64 (x6 + x37))) + (wrap64 (x7 * (rd x35 x37))))) : List Int)).bind fun y369 => (if 0 ≤ (wrap64 ((wrap64 (x6 + x37)) + 1)) then (if (wrap64 ((wrap64 (x6 + x37)) + 1)) < (x366001.length : Int) then ((some (y369.set ((wrap64 ((wrap64 (x6 + x37)) + 1)) : Int).toNat (wrap64 ((rd y369 (wrap64 ((wrap64 (x6 + x37)) + 1))) + (wrap64 (Int.tdiv (rd y369 (wrap64 (x6 + x37))) 1000000)))) : List Int)).bind fun y372 => (zV.l1 k x6 x7 x27 x28 x29 x35 x36 (wrap64 (x37 + 1)) x361000 x361001 x366000 (y372.set ((wrap64 (x6 + x37)) : Int).toNat (Int.tmod (rd y372 (wrap64 (x6 + x37))) 1000000)))) else (none)) else (none))) else (none)) else (none)) else (none)) else (none)) else (zV.l0 k x27 x28 (wrap64 (x29 + 1)) x361000 x361001 x366000 x366001)
def zV.l2 : Nat → Int → Int → Bool → List Int → Option (Bool × List Int)
 | 0, _, _, _, _ => none
 | k + 1, x86, x87, x366000, x366001 => if x87 < x86 then (if 0 ≤ (wrap64 (x87 + 1)) then (if (wrap64 (x87 + 1)) < (x366001.length : Int) then (if 0 ≤ x87 then (if x87 < (x366001.length : Int) then ((some (x366001.set ((wrap64 (x87 + 1)) : Int).toNat (wrap64 ((rd x366001 (wrap64 (x87 + 1))) + (wrap64 (Int.tdiv (rd x366001 x87) 1000000)))) : List Int)).bind fun y377 => (zV.l2 k x86 (wrap64 (x87 + 1)) x366000 (y377.set (x87 : Int).toNat (Int.tmod (rd y377 x87) 1000000)))) else (none)) else (none)) else (none)) else (none)) else ((zM.f k x366000 x366001).bind fun bt380 => (some (bt380.1, bt380.2)))
end
def zV.f (k : Nat) (a0_0 : Bool) (l0_1 : List Int) (a1_0 : Bool) (l1_1 : List Int) : Option (Bool × List Int) := if 0 ≤ (wrap64 ((wrap64 ((l0_1.length : Int) + (l1_1.length : Int))) + 1)) then (if (wrap64 ((wrap64 ((l0_1.length : Int) + (l1_1.length : Int))) + 1) : Int).toNat ≤ 35184372088832 then (zV.l0 k l0_1 (l0_1.length : Int) 0 a1_0 l1_1 (!(a0_0 == a1_0)) (List.replicate (wrap64 ((wrap64 ((l0_1.length : Int) + (l1_1.length : Int))) + 1) : Int).toNat 0)) else (none)) else (none)
def zV.T1 : Bool × List (List Nat × List Nat) := (true, [([], []), ([0], [0]), ([], []), ([2], [2]), ([1, 3], [1, 3]), ([], []), ([5], [5]), ([6], [6]), ([], []), ([8], [8]), ([9], [9]), ([7, 10], [7, 10]), ([11], [11]), ([12, 12], [12]), ([4, 13], [4, 13]), ([], []), ([15, 14, 0, 1, 2, 3, 4, 5, 6, 7, 8, 9, 10, 11, 12, 13, 14, 15], [14, 15])])
def zV.B1 : List Nat := [0, 1, 0, 4, 15, 0, 32, 96, 0, 256, 768, 2016, 4064, 8160, 16383, 0, 65535]
theorem zV.tab1 : rtab .any (opsOf Tryz.f103 1) = zV.T1 := by kernel_rfl
theorem zV.bits1 : yB zV.T1.2 zV.B1 = true := by kernel_rfl
def zV.T9 : Bool × List (List Nat × List Nat) := (true, [([], []), ([0], [0]), ([], []), ([], []), ([2, 3], [2, 3]), ([4], [4]), ([1, 5], [1, 5]), ([6], [6]), ([], []), ([8], [8]), ([], []), ([], []), ([10, 11], [10, 11]), ([9, 12], [9, 12]), ([13], [13]), ([14], [14]), ([7, 15], [7, 15]), ([1, 5, 0, 1, 2, 3, 4, 5, 6, 7, 8, 9, 10, 11, 12, 13, 14, 15, 16], [1, 5]), ([17, 16, 0, 1, 2, 3, 4, 5, 6, 7, 8, 9, 10, 11, 12, 13, 14, 15, 16], [16, 17])])
def zV.B9 : List Nat := [0, 1, 0, 0, 12, 28, 63, 127, 0, 256, 0, 0, 3072, 7936, 16128, 32512, 65535, 131071, 262143]
theorem zV.tab9 : rtab .any (opsOf Tryz.f103 9) = zV.T9 := by kernel_rfl
theorem zV.qQh : yB zV.T9.2 zV.B9 = true := by kernel_rfl
def zV.T16 : Bool × List (List Nat × List Nat) := (true, [([], []), ([0], [0]), ([], []), ([2], [2]), ([1, 3], [1, 3]), ([4], [4]), ([], []), ([6], [6]), ([], []), ([7, 8], [7, 8]), ([9], [9]), ([10], [10]), ([5, 11], [5, 11]), ([1, 3, 0, 1, 2, 3, 4, 5, 6, 7, 8, 9, 10, 11, 12], [1, 3]), ([13, 12, 0, 1, 2, 3, 4, 5, 6, 7, 8, 9, 10, 11, 12], [12, 13])])
def zV.B16 : List Nat := [0, 1, 0, 4, 15, 31, 0, 64, 0, 448, 960, 1984, 4095, 8191, 16383]
theorem zV.tab16 : rtab .any (opsOf Tryz.f103 16) = zV.T16 := by kernel_rfl
theorem zV.bits16 : yB zV.T16.2 zV.B16 = true := by kernel_rfl
theorem zV.calls (k : Nat) (a0_0 : Bool) (A0_1 : Option Addr) (c0_1 : Nat) (l0_1 : List Int) (a1_0 : Bool) (A1_1 : Option Addr) (c1_1 : Nat) (l1_1 : List Int) (r1 : Bool) (r2 : List Int) (w : World) (hr0_1 : Kd.C (Kd.int .i64) w A0_1 l0_1.length l0_1) (hc0_1 : l0_1.length ≤ c0_1) (hr1_1 : Kd.C (Kd.int .i64) w A1_1 l1_1.length l1_1) (hc1_1 : l1_1.length ≤ c1_1) (h : zV.f k a0_0 l0_1 a1_0 l1_1 = some (r1, r2)) :
  Calls Tryz.prog 103 #[.agg #[.bool a0_0, .slice A0_1 l0_1.length c0_1], .agg #[.bool a1_0, .slice A1_1 l1_1.length c1_1]] w fun e w' => ∃ v1_ : Value, e = .returned (.agg #[.bool r1, v1_]) ∧ Kd.V (Kd.int .i64) 3 w' w.heap.size (fun k_ => (w.heap.size ≤ k_)) v1_ r2 ∧ Below w.heap.size w w' := by
 have hu121 := Tryz.underlying121
 have HR0_1 := zQ.mk hr0_1
 have HC0_1 := zQ.mk hc0_1
 clear hr0_1 hc0_1
 have HR1_1 := zQ.mk hr1_1
 have HC1_1 := zQ.mk hc1_1
 clear hr1_1 hc1_1
 have HB := zQ.mk (Below.refl w.heap.size w)
 have H := h
 unfold zV.f at H
 clear h
 obtain ⟨ji3, hji3⟩ : ∃ j_ : Int, (wrap64 ((wrap64 ((l0_1.length : Int) + (l1_1.length : Int))) + 1)) = j_ := ⟨_, rfl⟩
 replace H : (if 0 ≤ (ji3) then (if (ji3 : Int).toNat ≤ 35184372088832 then (zV.l0 k l0_1 (l0_1.length : Int) 0 a1_0 l1_1 (!(a0_0 == a1_0)) (List.replicate (ji3 : Int).toNat 0)) else (none)) else (none)) = some (r1, r2) := by first | (rw [hji3] at H; exact H) | (simp only [hji3] at H ⊢; exact H)
 have hji3w : (IntKind.i64.wrap ((wrap64 ((l0_1.length : Int) + (l1_1.length : Int))) + 1)) = ji3 := (jw _).trans hji3
 by_cases c4 : 0 ≤ (ji3)
 ·rw [if_pos c4] at H
  have c4b0 := eq_true c4
  have c4b1 : decide (0 ≤ (ji3)) = true := decide_eq_true c4
  clear c4
  by_cases c5 : (ji3 : Int).toNat ≤ 35184372088832
  ·rw [if_pos c5] at H
   have c5b0 := eq_true c5
   have c5b1 : decide ((ji3 : Int).toNat ≤ 35184372088832) = true := decide_eq_true c5
   clear c5
   obtain ⟨y362, hy362⟩ : ∃ y_ : List Int, y_ = (List.replicate (ji3 : Int).toNat 0) := ⟨_, rfl⟩
   replace H : (zV.l0 k l0_1 (l0_1.length : Int) 0 a1_0 l1_1 (!(a0_0 == a1_0)) y362) = some (r1, r2) := by first | (rw [hy362]; with_reducible exact H) | (have H2_ := (Option.bind_some _ _).symm.trans H; rw [hy362]; with_reducible exact H2_) | (have H2_ := (Option.bind_some _ _).symm.trans H; with_reducible exact H2_) | with_reducible exact H | (rw [hy362]; exact H) | exact H
   have Ny362 := zQ.mk hy362
   clear hy362
   have H' := zQ.mk H
   clear H
   go_enter Tryz.func103, Tryz.ntmps103
   try go_wp2_with (first | ((with_reducible refine gD 2 rfl ?_); refine bx w 2 #[.bool a0_0, .slice A0_1 l0_1.length c0_1] 121 ?_; intro gb359 hg w6 hb BK359 GW359 GE359; clear HB; intro HB; clear hb hg) | ((with_reducible refine gD 3 rfl ?_); refine bx w 3 #[.bool a1_0, .slice A1_1 l1_1.length c1_1] 121 ?_; intro gb360 hg w7 hb BK360 GW360 GE360; clear HB; intro HB; have NB359_360 := nbl BK359 hg; have NB360_359 := nbr BK359 hg; replace BK359 := bb BK359 hb; clear hb hg) | ((with_reducible refine gD 4 rfl ?_); refine bx w 4 #[.bool false, .slice none 0 0] 121 ?_; intro gb361 hg w8 hb BK361 GW361 GE361; clear HB; intro HB; have NB359_361 := nbl BK359 hg; have NB361_359 := nbr BK359 hg; replace BK359 := bb BK359 hb; have NB360_361 := nbl BK360 hg; have NB361_360 := nbr BK360 hg; replace BK360 := bb BK360 hb; clear hb hg))
   have n0_ := zQ.mk (zK BK359.out)
   have n1_ := zQ.mk (zK BK360.out)
   have n2_ := zQ.mk (zK BK361.out)
   have n3_ := zQ.mk (qD HB.out)
   clear BK359
   clear BK360
   clear BK361
   clear HB
   have BK359 := n0_
   have BK360 := n1_
   have BK361 := n2_
   have HB := n3_
   clear n0_ n1_ n2_ n3_
   refine uH (n := 17) (S := fun w' => w'.cell? ⟨gb359, 0, none⟩ = some (.bool a0_0) ∧ w'.cell? ⟨gb359, 1, none⟩ = some (.slice A0_1 l0_1.length c0_1) ∧ w'.cell? ⟨gb360, 0, none⟩ = some (.bool a1_0) ∧ w'.cell? ⟨gb360, 1, none⟩ = some (.slice A1_1 l1_1.length c1_1)) (ds := []) (bm 17 0) (by kernel_rfl) rfl rfl ⟨(zx BK359.out 0).trans rfl, (zx BK359.out 1).trans rfl, (zx BK360.out 0).trans rfl, (zx BK360.out 1).trans rfl⟩ (fun hHeld => ?_); refine vF zV.tab1 zV.bits1 (fun HT_ HW_ => ?_)
   generalize w8.drew = w9 at BK359 BK360 BK361 HB hHeld ⊢
   refine pu 0 11 (bm 17 1) HT_ ?_
   refine pu 2 13 (bm 17 5) HT_ ?_
   refine pu 5 16 (bm 17 37) HT_ ?_
   refine pu 8 19 (bm 17 293) HT_ ?_
   refine ta4 1 12 (bm 17 295) HT_ HW_ hHeld ?_
   refine ta4 3 14 (bm 17 303) HT_ HW_ hHeld ?_
   refine pu 4 15 (bm 17 319) HT_ ?_
   refine ta4 6 17 (bm 17 383) HT_ HW_ hHeld ?_
   refine pu 7 18 (bm 17 511) HT_ ?_
   refine ta4 9 20 (bm 17 1023) HT_ HW_ hHeld ?_
   refine pu 10 21 (bm 17 2047) HT_ ?_
   refine pu 11 22 (bm 17 4095) HT_ ?_
   refine pu 12 23 (bm 17 8191) HT_ ?_
   refine join_ (σ := Value × Nat) 1 (bm 17 65535) (fun s_ => [(24, s_.1), (5, .pointer (some ⟨s_.2, 0, none⟩)), (25, .agg #[.bool (!(a0_0 == a1_0)), s_.1])]) (fun s_ w' => (w'.cell? ⟨gb359, 0, none⟩ = some (.bool a0_0) ∧ w'.cell? ⟨gb359, 1, none⟩ = some (.slice A0_1 l0_1.length c0_1) ∧ w'.cell? ⟨gb360, 0, none⟩ = some (.bool a1_0) ∧ w'.cell? ⟨gb360, 1, none⟩ = some (.slice A1_1 l1_1.length c1_1)) ∧ (Kd.R (Kd.int .i64) 3 w' w.heap.size (fun k_ => (w.heap.size ≤ k_)) s_.1 y362) ∧ (w'.heap[gb359]? = some (.cells #[.bool a0_0, .slice A0_1 l0_1.length c0_1] 121 (0, 0))) ∧ (w'.heap[gb360]? = some (.cells #[.bool a1_0, .slice A1_1 l1_1.length c1_1] 121 (0, 0))) ∧ (w'.heap[gb361]? = some (.cells #[.bool false, .slice none 0 0] 121 (0, 0))) ∧ (w'.heap[s_.2]? = some (.cells #[.bool false, .slice none 0 0] 121 (0, 0))) ∧ (w.heap.size ≤ s_.2) ∧ (w.heap.size ≤ s_.2) ∧ (gb359 ≠ s_.2) ∧ (s_.2 ≠ gb359) ∧ (gb360 ≠ s_.2) ∧ (s_.2 ≠ gb360) ∧ (gb361 ≠ s_.2) ∧ (s_.2 ≠ gb361) ∧ (Below w.heap.size w w')) ?_ ?_
   rotate_left
   ·intro hCont
    refine two_ (i := 13) (j := 15) (Ni := some 24) (Nj := some 5) (bm 17 16383) (bm 17 40959) rfl rfl rfl rfl (two_of HT_.out (by kernel_rfl)) (by decide) (by decide) (fun K hK => ?_) (fun K hK => ?_)
    ·skip
     refine Kd.zXv (Kd.int .i64) _ 3 (by rfl) (N := 24) rfl 39 _ _ rfl ji3 rfl rfl Tryz.underlying39 (.int .i64 0) 8 info3 rfl (by decide) (by omega) 0 (ok := fun _ => True) (okp := fun _ => True) rfl (fun _ hk => hk) trivial (of_decide_eq_true (by assumption)) (Nat.le_trans (Nat.mul_le_mul_right _ (of_decide_eq_true (by assumption) : ji3.toNat ≤ 35184372088832)) (by omega)) (Below.refl _ _) (Nat.le_refl _) ?_
     intro v363 w10 ho11 hb hg_ hnew_
     clear hg_ hnew_
     (first | rw [← Ny362.out] at ho11 | (simp only [Int.reduceToNat] at ho11; rw [← Ny362.out] at ho11))
     have n0_ := zQ.mk (Kd.vC (Kd.zQw (M := fun k_ => (w.heap.size ≤ k_)) ho11 (zy (zb w)) (fun k_ h_ => h_)) (zy (zb w)))
     have n1_ := bb BK359 hb
     have n2_ := bb BK360 hb
     have n3_ := bb BK361 hb
     have n4_ := hs w hb
     clear BK359
     clear BK360
     clear BK361
     clear HB
     have HO364 := n0_
     have BK359 := n1_
     have BK360 := n2_
     have BK361 := n3_
     have HB := n4_
     clear n0_ n1_ n2_ n3_ n4_
     clear hb ho11
     obtain ⟨Ao12, co12, eo12⟩ := Kd.xx HO364.out
     (first | subst eo12 | (injection eo12 with f1_ f2_ f3_; have f4_ := f1_.symm; have f5_ := f3_.symm; clear f1_ f2_ f3_; subst f4_; subst f5_))
     refine hK.out _ _ ⟨(zx BK359.out 0).trans rfl, (zx BK359.out 1).trans rfl, (zx BK360.out 0).trans rfl, (zx BK360.out 1).trans rfl⟩ (fun hHeld => ?_)
     clear hK K
     refine uG (a' := ?_) ?_ ?_
     rotate_left
     ·show Act.put _ (some 24) _ = _
      simp only [sq, jw, vL]
      rfl
     refine pu 14 25 (bm 17 32767) HT_ ?_
     refine one_ (i := 15) (N := some 5) (bm 17 65535) rfl rfl (yN HT_.out (by kernel_rfl)) (by decide) (fun K hK => ?_)
     refine qZn ?hg (N := 5) ?hd (cs := #[.bool false, .slice none 0 0]) (t := 121) ?hr ?_; (case hd => rfl); (case hg => rfl); (case hr => first | (go_simp; done) | (go_simp; rfl))
     intro gb365 hg w13 hbox hb
     have n0_ := rb HO364 hb
     have n1_ := bb BK359 hb
     have n2_ := bb BK360 hb
     have n3_ := bb BK361 hb
     have n4_ := hs w hb
     have n5_ := zQ.mk (hbox)
     have n6_ := zQ.mk ((by rw [hg]; exact (zy (zb w)) : w.heap.size ≤ gb365))
     have n7_ := zQ.mk ((by rw [hg]; exact (zy (zb w)) : w.heap.size ≤ gb365))
     have n8_ := nbl BK359 hg
     have n9_ := nbr BK359 hg
     have n10_ := nbl BK360 hg
     have n11_ := nbr BK360 hg
     have n12_ := nbl BK361 hg
     have n13_ := nbr BK361 hg
     clear HO364
     clear BK359
     clear BK360
     clear BK361
     clear HB
     have HO364 := n0_
     have BK359 := n1_
     have BK360 := n2_
     have BK361 := n3_
     have HB := n4_
     have BK365 := n5_
     have GW365 := n6_
     have GE365 := n7_
     have NB359_365 := n8_
     have NB365_359 := n9_
     have NB360_365 := n10_
     have NB365_360 := n11_
     have NB361_365 := n12_
     have NB365_361 := n13_
     clear n0_ n1_ n2_ n3_ n4_ n5_ n6_ n7_ n8_ n9_ n10_ n11_ n12_ n13_
     clear hb hg
     refine hK.out _ _ ⟨(zx BK359.out 0).trans rfl, (zx BK359.out 1).trans rfl, (zx BK360.out 0).trans rfl, (zx BK360.out 1).trans rfl⟩ (fun hHeld => ?_)
     clear hK K
     refine uG (a' := ?_) ?_ ?_
     rotate_left
     ·show Act.put _ (some 5) _ = _
      simp only [sq, jw, vL]
      rfl
     exact uG (by simp only [zYd, Act.put, List.setIfInBounds_toArray, List.set_cons_zero, List.set_cons_succ]) (hCont (.slice Ao12 y362.length co12, gb365) _ ⟨hHeld, (by (with_reducible repeat (first | apply Kd.xU | apply Kd.xS | apply Kd.xw)); exact Kd.vw HO364.out (fun _ hk => hk.1)), (zk BK359), (zk BK360), (zk BK361), (zk BK365), GW365.out, GE365.out, NB359_365.out, NB365_359.out, NB360_365.out, NB365_360.out, NB361_365.out, NB365_361.out, (zb w)⟩)
    ·skip
     refine qZn ?hg (N := 5) ?hd (cs := #[.bool false, .slice none 0 0]) (t := 121) ?hr ?_; (case hd => rfl); (case hg => rfl); (case hr => first | (go_simp; done) | (go_simp; rfl))
     intro gb365 hg w10 hbox hb
     have n0_ := bb BK359 hb
     have n1_ := bb BK360 hb
     have n2_ := bb BK361 hb
     have n3_ := hs w hb
     have n4_ := zQ.mk (hbox)
     have n5_ := zQ.mk ((by rw [hg]; exact (zy (zb w)) : w.heap.size ≤ gb365))
     have n6_ := zQ.mk ((by rw [hg]; exact (zy (zb w)) : w.heap.size ≤ gb365))
     have n7_ := nbl BK359 hg
     have n8_ := nbr BK359 hg
     have n9_ := nbl BK360 hg
     have n10_ := nbr BK360 hg
     have n11_ := nbl BK361 hg
     have n12_ := nbr BK361 hg
     clear BK359
     clear BK360
     clear BK361
     clear HB
     have BK359 := n0_
     have BK360 := n1_
     have BK361 := n2_
     have HB := n3_
     have BK365 := n4_
     have GW365 := n5_
     have GE365 := n6_
     have NB359_365 := n7_
     have NB365_359 := n8_
     have NB360_365 := n9_
     have NB365_360 := n10_
     have NB361_365 := n11_
     have NB365_361 := n12_
     clear n0_ n1_ n2_ n3_ n4_ n5_ n6_ n7_ n8_ n9_ n10_ n11_ n12_
     clear hb hg
     refine hK.out _ _ ⟨(zx BK359.out 0).trans rfl, (zx BK359.out 1).trans rfl, (zx BK360.out 0).trans rfl, (zx BK360.out 1).trans rfl⟩ (fun hHeld => ?_)
     clear hK K
     refine uG (a' := ?_) ?_ ?_
     rotate_left
     ·show Act.put _ (some 5) _ = _
      simp only [sq, jw, vL]
      rfl
     refine one_ (i := 13) (N := some 24) (bm 17 49151) rfl rfl (yN HT_.out (by kernel_rfl)) (by decide) (fun K hK => ?_)
     refine Kd.zXv (Kd.int .i64) _ 3 (by rfl) (N := 24) rfl 39 _ _ rfl ji3 rfl rfl Tryz.underlying39 (.int .i64 0) 8 info3 rfl (by decide) (by omega) 0 (ok := fun _ => True) (okp := fun _ => True) rfl (fun _ hk => hk) trivial (of_decide_eq_true (by assumption)) (Nat.le_trans (Nat.mul_le_mul_right _ (of_decide_eq_true (by assumption) : ji3.toNat ≤ 35184372088832)) (by omega)) (Below.refl _ _) (Nat.le_refl _) ?_
     intro v363 w11 ho12 hb hg_ hnew_
     clear hg_ hnew_
     (first | rw [← Ny362.out] at ho12 | (simp only [Int.reduceToNat] at ho12; rw [← Ny362.out] at ho12))
     have n0_ := zQ.mk (Kd.vC (Kd.zQw (M := fun k_ => (w.heap.size ≤ k_)) ho12 (zy (zb w)) (fun k_ h_ => h_)) (zy (zb w)))
     have n1_ := bb BK359 hb
     have n2_ := bb BK360 hb
     have n3_ := bb BK361 hb
     have n4_ := bb BK365 hb
     have n5_ := hs w hb
     clear BK359
     clear BK360
     clear BK361
     clear BK365
     clear HB
     have HO364 := n0_
     have BK359 := n1_
     have BK360 := n2_
     have BK361 := n3_
     have BK365 := n4_
     have HB := n5_
     clear n0_ n1_ n2_ n3_ n4_ n5_
     clear hb ho12
     obtain ⟨Ao13, co13, eo13⟩ := Kd.xx HO364.out
     (first | subst eo13 | (injection eo13 with f1_ f2_ f3_; have f4_ := f1_.symm; have f5_ := f3_.symm; clear f1_ f2_ f3_; subst f4_; subst f5_))
     refine hK.out _ _ ⟨(zx BK359.out 0).trans rfl, (zx BK359.out 1).trans rfl, (zx BK360.out 0).trans rfl, (zx BK360.out 1).trans rfl⟩ (fun hHeld => ?_)
     clear hK K
     refine uG (a' := ?_) ?_ ?_
     rotate_left
     ·show Act.put _ (some 24) _ = _
      simp only [sq, jw, vL]
      rfl
     refine pu 14 25 (bm 17 65535) HT_ ?_
     exact uG (by simp only [zYd, Act.put, List.setIfInBounds_toArray, List.set_cons_zero, List.set_cons_succ]) (hCont (.slice Ao13 y362.length co13, gb365) _ ⟨hHeld, (by (with_reducible repeat (first | apply Kd.xU | apply Kd.xS | apply Kd.xw)); exact Kd.vw HO364.out (fun _ hk => hk.1)), (zk BK359), (zk BK360), (zk BK361), (zk BK365), GW365.out, GE365.out, NB359_365.out, NB365_359.out, NB360_365.out, NB365_360.out, NB361_365.out, NB365_361.out, (zb w)⟩)
   rintro ⟨v363, gb365⟩ w14 ⟨hS_, h0_, h1_, h2_, h3_, h4_, h5_, h6_, h7_, h8_, h9_, h10_, h11_, h12_, h13_⟩
   have n0_ : zQ (Kd.R (Kd.int .i64) 3 w14 w.heap.size (fun k_ => (w.heap.size ≤ k_)) v363 y362) := ⟨h0_⟩
   have n1_ : zQ (w14.heap[gb359]? = some (.cells #[.bool a0_0, .slice A0_1 l0_1.length c0_1] 121 (0, 0))) := ⟨h1_⟩
   have n2_ : zQ (w14.heap[gb360]? = some (.cells #[.bool a1_0, .slice A1_1 l1_1.length c1_1] 121 (0, 0))) := ⟨h2_⟩
   have n3_ : zQ (w14.heap[gb361]? = some (.cells #[.bool false, .slice none 0 0] 121 (0, 0))) := ⟨h3_⟩
   have n4_ : zQ (w14.heap[gb365]? = some (.cells #[.bool false, .slice none 0 0] 121 (0, 0))) := ⟨h4_⟩
   have n5_ : zQ (w.heap.size ≤ gb365) := ⟨h5_⟩
   have n6_ : zQ (w.heap.size ≤ gb365) := ⟨h6_⟩
   have n7_ : zQ (gb359 ≠ gb365) := ⟨h7_⟩
   have n8_ : zQ (gb365 ≠ gb359) := ⟨h8_⟩
   have n9_ : zQ (gb360 ≠ gb365) := ⟨h9_⟩
   have n10_ : zQ (gb365 ≠ gb360) := ⟨h10_⟩
   have n11_ : zQ (gb361 ≠ gb365) := ⟨h11_⟩
   have n12_ : zQ (gb365 ≠ gb361) := ⟨h12_⟩
   have n13_ : zQ (Below w.heap.size w w14) := ⟨h13_⟩
   clear BK359
   clear BK360
   clear BK361
   clear HB
   clear h0_ h1_ h2_ h3_ h4_ h5_ h6_ h7_ h8_ h9_ h10_ h11_ h12_ h13_
   have HO364 := n0_
   have BK359 := n1_
   have BK360 := n2_
   have BK361 := n3_
   have BK365 := n4_
   have GW365 := n5_
   have GE365 := n6_
   have NB359_365 := n7_
   have NB365_359 := n8_
   have NB360_365 := n9_
   have NB365_360 := n10_
   have NB361_365 := n11_
   have NB365_361 := n12_
   have HB := n13_
   clear n0_ n1_ n2_ n3_ n4_ n5_ n6_ n7_ n8_ n9_ n10_ n11_ n12_ n13_
   have hHeld : w14.cell? ⟨gb359, 0, none⟩ = some (.bool a0_0) ∧ w14.cell? ⟨gb359, 1, none⟩ = some (.slice A0_1 l0_1.length c0_1) ∧ w14.cell? ⟨gb360, 0, none⟩ = some (.bool a1_0) ∧ w14.cell? ⟨gb360, 1, none⟩ = some (.slice A1_1 l1_1.length c1_1) := hS_
   obtain ⟨Ao15, co15, eo15⟩ := Kd.xx HO364.out
   (first | subst eo15 | (injection eo15 with f1_ f2_ f3_; have f4_ := f1_.symm; have f5_ := f3_.symm; clear f1_ f2_ f3_; subst f4_; subst f5_))
   refine uG (a' := ?_) ?_ ?_
   rotate_left
   ·simp only [zYd, Act.put, List.setIfInBounds_toArray, List.set_cons_zero, List.set_cons_succ]
    rfl
   refine one_ (i := 16) (N := none) (bm 17 131071) rfl rfl (yN HT_.out (by kernel_rfl)) (by decide) (fun K hK => ?_)
   have hs16 : w14.cell? ⟨gb365, 0, none⟩ = some (.bool false) := (zx BK365.out 0).trans rfl
   have hfs16 := qX BK365.out 0
   have hns16_0 := NB359_365.out
   have hns16_1 := NB360_365.out
   have hns16_2 := NB361_365.out
   have hms16_0 := NB365_359.out
   have hms16_1 := NB365_360.out
   have hms16_2 := NB365_361.out
   have hs17 : w14.cell? ⟨gb365, 1, none⟩ = some (.slice none 0 0) := (zx BK365.out 1).trans rfl
   have hfs17 := qX BK365.out 1
   have hns17_0 := NB359_365.out
   have hns17_1 := NB360_365.out
   have hns17_2 := NB361_365.out
   have hms17_0 := NB365_359.out
   have hms17_1 := NB365_360.out
   have hms17_2 := NB365_361.out
   refine zCg (w1 := ?_) (by rfl) rfl ?_ ?_
   rotate_left
   ·go_simp
    rfl
   refine hK.out _ _ ⟨((cell_far (p := ⟨gb365, _, none⟩) NB359_365.out _).trans (((cell_far (p := ⟨gb365, _, none⟩) NB359_365.out _).trans (hHeld.1)))), ((cell_far (p := ⟨gb365, _, none⟩) NB359_365.out _).trans (((cell_far (p := ⟨gb365, _, none⟩) NB359_365.out _).trans (hHeld.2.1)))), ((cell_far (p := ⟨gb365, _, none⟩) NB360_365.out _).trans (((cell_far (p := ⟨gb365, _, none⟩) NB360_365.out _).trans (hHeld.2.2.1)))), ((cell_far (p := ⟨gb365, _, none⟩) NB360_365.out _).trans (((cell_far (p := ⟨gb365, _, none⟩) NB360_365.out _).trans (hHeld.2.2.2))))⟩ (fun hHeld => ?_)
   clear hK K
   refine zQh (uq HT_.out (by kernel_rfl)) ?_
   have hnb18 := NB359_360.out
   have hnc18 := NB360_359.out
   have hnb19 := NB359_361.out
   have hnc19 := NB361_359.out
   have hnb20 := NB359_365.out
   have hnc20 := NB365_359.out
   obtain ⟨hcz21_0, hcz21_1, hfz21_0, hfz21_1⟩ := cz2 BK359
   try go_wp2
   try simp only [sq]
   go_loopg [29] k (fun kq v29 w' => ∃ (x29_1 : Int) (x366001_1 : List Int) (u366001 : Value), v29 = .int .i64 x29_1 ∧ zQ (zV.l0 kq l0_1 (l0_1.length : Int) x29_1 a1_0 l1_1 (!(a0_0 == a1_0)) x366001_1 = some (r1, r2)) ∧ zQ (kq ≤ k) ∧ zQ (Kd.R (Kd.int .i64) 3 w' w.heap.size (fun k_ => (w.heap.size ≤ k_)) u366001 x366001_1) ∧ zQ (w'.heap[gb359]? = some (.cells #[.bool a0_0, (.slice A0_1 l0_1.length c0_1)] 121 (0, 0))) ∧ zQ (w'.heap[gb360]? = some (.cells #[.bool a1_0, (.slice A1_1 l1_1.length c1_1)] 121 (0, 0))) ∧ zQ (w'.heap[gb361]? = some (.cells #[.bool false, (.slice none 0 0)] 121 (0, 0))) ∧ zQ (w'.heap[gb365]? = some (.cells #[.bool (!(a0_0 == a1_0)), u366001] 121 (0, 0))) ∧ zQ (Below w.heap.size w w'))
   case atStart => exact ⟨(0), (y362), (.slice Ao15 y362.length co15), ar, H', ⟨Nat.le_refl _⟩, ⟨by (with_reducible repeat (first | apply Kd.xU | apply Kd.xS | apply Kd.xw)); exact Kd.vw (Kd.zZd (p := ⟨gb365, 1, none⟩) (Kd.zZd (p := ⟨gb365, 0, none⟩) (Kd.zB HO364.out BK365.out (by decide)) (fun _ hk => hk.2) (.bool (!(a0_0 == a1_0)))) (fun _ hk => hk.2) (.slice Ao15 y362.length co15)) (fun _ hk => hk.1)⟩, ⟨by (with_reducible repeat (first | refine zJ ?_ _ | refine zK ?_ | refine zZ ?_ _)); refine zF ?_ NB359_365.out _; (with_reducible repeat (first | refine zJ ?_ _ | refine zK ?_ | refine zZ ?_ _)); refine zF ?_ NB359_365.out _; exact zk BK359⟩, ⟨by (with_reducible repeat (first | refine zJ ?_ _ | refine zK ?_ | refine zZ ?_ _)); refine zF ?_ NB360_365.out _; (with_reducible repeat (first | refine zJ ?_ _ | refine zK ?_ | refine zZ ?_ _)); refine zF ?_ NB360_365.out _; exact zk BK360⟩, ⟨by (with_reducible repeat (first | refine zJ ?_ _ | refine zK ?_ | refine zZ ?_ _)); refine zF ?_ NB361_365.out _; (with_reducible repeat (first | refine zJ ?_ _ | refine zK ?_ | refine zZ ?_ _)); refine zF ?_ NB361_365.out _; exact zk BK361⟩, ⟨by (with_reducible repeat (first | refine zJ ?_ _ | refine zK ?_ | refine zZ ?_ _)); refine zL (cs := #[.bool (!(a0_0 == a1_0)), .slice none 0 0]) ?_ 1 _ rfl; (with_reducible repeat (first | refine zJ ?_ _ | refine zK ?_ | refine zZ ?_ _)); refine zL (cs := #[.bool false, .slice none 0 0]) ?_ 0 _ rfl; exact zk BK365⟩, ⟨(zb w)⟩⟩
   case round =>
    clear H'
    try clear c1
    try clear c2
    try clear p2
    try clear c4
    try clear c4b0
    try clear c4b1
    try clear c5
    try clear c5b0
    try clear c5b1
    try clear p6
    try clear c10
    try clear c18
    try clear c19
    try clear c20
    try clear hcz21_0 hcz21_1 hfz21_0 hfz21_1
    obtain ⟨x29_1, x366001_1, u366001, rfl, HA, HK1, HO_366001, BK359, BK360, BK361, BK365, HB⟩ := hrel
    cases gk with
    | zero => exact absurd HA.out (by simp [zV.l0])
    | succ k1 =>
     have H := HA.out
     clear HA
     simp only [zV.l0] at H
     by_cases c22 : x29_1 < (l0_1.length : Int)
     ·rw [if_pos c22] at H
      have c22b0 : decide (x29_1 < (l0_1.length : Int)) = true := decide_eq_true c22
      clear c22
      by_cases c23 : 0 ≤ x29_1
      ·rw [if_pos c23] at H
       have c23b0 : decide (0 ≤ x29_1) = true := decide_eq_true c23
       clear c23
       by_cases c24 : x29_1 < (l0_1.length : Int)
       ·rw [if_pos c24] at H
        have c24b0 : decide (x29_1 < (l0_1.length : Int)) = true := decide_eq_true c24
        clear c24
        have H' := zQ.mk H
        clear H
        have p366 : 0 ≤ (x29_1 : Int) := of_decide_eq_true (by assumption)
        have q366 : x29_1 < (l0_1.length : Int) := of_decide_eq_true (by assumption)
        obtain ⟨ad366, e366, hx366_0⟩ := Kd.jy HR0_1.out x29_1 p366 q366
        cases e366
        replace hx366_0 := hz HB hx366_0
        replace p366 := eq_true p366
        replace q366 := eq_true q366
        have hnb25 := NB360_359.out
        have hnc25 := NB359_360.out
        have hnb26 := NB360_361.out
        have hnc26 := NB361_360.out
        have hnb27 := NB360_365.out
        have hnc27 := NB365_360.out
        obtain ⟨hcz28_0, hcz28_1, hfz28_0, hfz28_1⟩ := cz2 BK360
        go_wp2
        try simp only [sq]
        go_loopg [37] k1 (fun kq v37 w' => ∃ (x37_2 : Int) (x366001_2 : List Int) (u366001 : Value), v37 = .int .i64 x37_2 ∧ zQ (zV.l1 kq x29_1 (rd l0_1 x29_1) l0_1 (l0_1.length : Int) x29_1 l1_1 (l1_1.length : Int) x37_2 a1_0 l1_1 (!(a0_0 == a1_0)) x366001_2 = some (r1, r2)) ∧ zQ (kq ≤ k1) ∧ zQ (Kd.R (Kd.int .i64) 3 w' w.heap.size (fun k_ => (w.heap.size ≤ k_)) u366001 x366001_2) ∧ zQ (w'.heap[gb359]? = some (.cells #[.bool a0_0, (.slice (some ad366) l0_1.length c0_1)] 121 (0, 0))) ∧ zQ (w'.heap[gb360]? = some (.cells #[.bool a1_0, (.slice A1_1 l1_1.length c1_1)] 121 (0, 0))) ∧ zQ (w'.heap[gb361]? = some (.cells #[.bool false, (.slice none 0 0)] 121 (0, 0))) ∧ zQ (w'.heap[gb365]? = some (.cells #[.bool (!(a0_0 == a1_0)), u366001] 121 (0, 0))) ∧ zQ (Below w.heap.size w w'))
        case atStart => exact ⟨(0), (x366001_1), (u366001), ar, H', ⟨Nat.le_refl _⟩, ⟨zo HO_366001⟩, ⟨(zk BK359)⟩, ⟨(zk BK360)⟩, ⟨(zk BK361)⟩, ⟨(zk BK365)⟩, ⟨(zb w)⟩⟩
        case round =>
         clear H'
         try clear c1
         try clear c2
         try clear p2
         try clear p3
         try clear q3
         try clear hx3
         try clear c4
         try clear c4b0
         try clear c4b1
         try clear c5
         try clear c5b0
         try clear c5b1
         try clear p6
         try clear c10
         try clear c18
         try clear c19
         try clear c20
         try clear c22
         try clear c22b0
         try clear c23
         try clear c23b0
         try clear c24
         try clear c24b0
         try clear c25
         try clear c26
         try clear c27
         try clear hcz21_0 hcz21_1
         try clear hcz28_0 hcz28_1
         try clear hfz21_0 hfz21_1
         try clear hfz28_0 hfz28_1
         try clear hx366_0
         try clear p2
         try clear p366
         try clear p6
         try clear q366
         obtain ⟨x37_2, x366001_2, u366001, rfl, HA, HK2, HO_366001, BK359, BK360, BK361, BK365, HB⟩ := hrel
         cases gk with
         | zero => exact absurd HA.out (by simp [zV.l1])
         | succ k2 =>
          have H := HA.out
          clear HA
          simp only [zV.l1] at H
          by_cases c29 : x37_2 < (l1_1.length : Int)
          ·rw [if_pos c29] at H
           have c29b0 : decide (x37_2 < (l1_1.length : Int)) = true := decide_eq_true c29
           clear c29
           by_cases c30 : 0 ≤ x37_2
           ·rw [if_pos c30] at H
            have c30b0 : decide (0 ≤ x37_2) = true := decide_eq_true c30
            clear c30
            by_cases c31 : x37_2 < (l1_1.length : Int)
            ·rw [if_pos c31] at H
             have c31b0 : decide (x37_2 < (l1_1.length : Int)) = true := decide_eq_true c31
             clear c31
             obtain ⟨ji32, hji32⟩ : ∃ j_ : Int, (wrap64 (x29_1 + x37_2)) = j_ := ⟨_, rfl⟩
             replace H : (if 0 ≤ (ji32) then (if (ji32) < (x366001_2.length : Int) then ((some (x366001_2.set ((ji32) : Int).toNat (wrap64 ((rd x366001_2 (ji32)) + (wrap64 ((rd l0_1 x29_1) * (rd l1_1 x37_2))))) : List Int)).bind fun y369 => (if 0 ≤ (wrap64 ((ji32) + 1)) then (if (wrap64 ((ji32) + 1)) < (x366001_2.length : Int) then ((some (y369.set ((wrap64 ((ji32) + 1)) : Int).toNat (wrap64 ((rd y369 (wrap64 ((ji32) + 1))) + (wrap64 (Int.tdiv (rd y369 (ji32)) 1000000)))) : List Int)).bind fun y372 => (zV.l1 k2 x29_1 (rd l0_1 x29_1) l0_1 (l0_1.length : Int) x29_1 l1_1 (l1_1.length : Int) (wrap64 (x37_2 + 1)) a1_0 l1_1 (!(a0_0 == a1_0)) (y372.set ((ji32) : Int).toNat (Int.tmod (rd y372 (ji32)) 1000000)))) else (none)) else (none))) else (none)) else (none)) = some (r1, r2) := by first | (rw [hji32] at H; exact H) | (simp only [hji32] at H ⊢; exact H)
             have hji32w : (IntKind.i64.wrap (x29_1 + x37_2)) = ji32 := (jw _).trans hji32
             by_cases c33 : 0 ≤ (ji32)
             ·rw [if_pos c33] at H
              have c33b0 : decide (0 ≤ (ji32)) = true := decide_eq_true c33
              clear c33
              by_cases c34 : (ji32) < (x366001_2.length : Int)
              ·rw [if_pos c34] at H
               have c34b0 : decide ((ji32) < (x366001_2.length : Int)) = true := decide_eq_true c34
               clear c34
               obtain ⟨y369, hy369⟩ : ∃ y_ : List Int, y_ = (x366001_2.set ((ji32) : Int).toNat (wrap64 ((rd x366001_2 (ji32)) + (wrap64 ((rd l0_1 x29_1) * (rd l1_1 x37_2)))))) := ⟨_, rfl⟩
               replace H : (if 0 ≤ (wrap64 ((ji32) + 1)) then (if (wrap64 ((ji32) + 1)) < (x366001_2.length : Int) then ((some (y369.set ((wrap64 ((ji32) + 1)) : Int).toNat (wrap64 ((rd y369 (wrap64 ((ji32) + 1))) + (wrap64 (Int.tdiv (rd y369 (ji32)) 1000000)))) : List Int)).bind fun y372 => (zV.l1 k2 x29_1 (rd l0_1 x29_1) l0_1 (l0_1.length : Int) x29_1 l1_1 (l1_1.length : Int) (wrap64 (x37_2 + 1)) a1_0 l1_1 (!(a0_0 == a1_0)) (y372.set ((ji32) : Int).toNat (Int.tmod (rd y372 (ji32)) 1000000)))) else (none)) else (none)) = some (r1, r2) := by first | (rw [hy369]; with_reducible exact H) | (have H2_ := (Option.bind_some _ _).symm.trans H; rw [hy369]; with_reducible exact H2_) | (have H2_ := (Option.bind_some _ _).symm.trans H; with_reducible exact H2_) | with_reducible exact H | (rw [hy369]; exact H) | exact H
               have Ny369 := zQ.mk hy369
               clear hy369
               obtain ⟨ji36, hji36⟩ : ∃ j_ : Int, (wrap64 ((ji32) + 1)) = j_ := ⟨_, rfl⟩
               replace H : (if 0 ≤ (ji36) then (if (ji36) < (x366001_2.length : Int) then ((some (y369.set ((ji36) : Int).toNat (wrap64 ((rd y369 (ji36)) + (wrap64 (Int.tdiv (rd y369 (ji32)) 1000000)))) : List Int)).bind fun y372 => (zV.l1 k2 x29_1 (rd l0_1 x29_1) l0_1 (l0_1.length : Int) x29_1 l1_1 (l1_1.length : Int) (wrap64 (x37_2 + 1)) a1_0 l1_1 (!(a0_0 == a1_0)) (y372.set ((ji32) : Int).toNat (Int.tmod (rd y372 (ji32)) 1000000)))) else (none)) else (none)) = some (r1, r2) := by first | (rw [hji36] at H; exact H) | (simp only [hji36] at H ⊢; exact H)
               have hji36w : (IntKind.i64.wrap ((ji32) + 1)) = ji36 := (jw _).trans hji36
               by_cases c37 : 0 ≤ (ji36)
               ·rw [if_pos c37] at H
                have c37b0 : decide (0 ≤ (ji36)) = true := decide_eq_true c37
                clear c37
                by_cases c38 : (ji36) < (x366001_2.length : Int)
                ·rw [if_pos c38] at H
                 have c38b0 : decide ((ji36) < (x366001_2.length : Int)) = true := decide_eq_true c38
                 clear c38
                 obtain ⟨y372, hy372⟩ : ∃ y_ : List Int, y_ = (y369.set ((ji36) : Int).toNat (wrap64 ((rd y369 (ji36)) + (wrap64 (Int.tdiv (rd y369 (ji32)) 1000000))))) := ⟨_, rfl⟩
                 replace H : (zV.l1 k2 x29_1 (rd l0_1 x29_1) l0_1 (l0_1.length : Int) x29_1 l1_1 (l1_1.length : Int) (wrap64 (x37_2 + 1)) a1_0 l1_1 (!(a0_0 == a1_0)) (y372.set ((ji32) : Int).toNat (Int.tmod (rd y372 (ji32)) 1000000))) = some (r1, r2) := by first | (rw [hy372]; with_reducible exact H) | (have H2_ := (Option.bind_some _ _).symm.trans H; rw [hy372]; with_reducible exact H2_) | (have H2_ := (Option.bind_some _ _).symm.trans H; with_reducible exact H2_) | with_reducible exact H | (rw [hy372]; exact H) | exact H
                 have Ny372 := zQ.mk hy372
                 clear hy372
                 obtain ⟨y374, hy374⟩ : ∃ y_ : List Int, y_ = (y372.set ((ji32) : Int).toNat (Int.tmod (rd y372 (ji32)) 1000000)) := ⟨_, rfl⟩
                 replace H : (zV.l1 k2 x29_1 (rd l0_1 x29_1) l0_1 (l0_1.length : Int) x29_1 l1_1 (l1_1.length : Int) (wrap64 (x37_2 + 1)) a1_0 l1_1 (!(a0_0 == a1_0)) y374) = some (r1, r2) := by first | (rw [hy374]; with_reducible exact H) | (have H2_ := (Option.bind_some _ _).symm.trans H; rw [hy374]; with_reducible exact H2_) | (have H2_ := (Option.bind_some _ _).symm.trans H; with_reducible exact H2_) | with_reducible exact H | (rw [hy374]; exact H) | exact H
                 have Ny374 := zQ.mk hy374
                 clear hy374
                 have H' := zQ.mk H
                 clear H
                 have p367 : 0 ≤ (x37_2 : Int) := of_decide_eq_true (by assumption)
                 have q367 : x37_2 < (l1_1.length : Int) := of_decide_eq_true (by assumption)
                 obtain ⟨ad367, e367, hx367_0⟩ := Kd.jy HR1_1.out x37_2 p367 q367
                 cases e367
                 replace hx367_0 := hz HB hx367_0
                 replace p367 := eq_true p367
                 replace q367 := eq_true q367
                 have hnb41 := NB365_359.out
                 have hnc41 := NB359_365.out
                 have hnb42 := NB365_360.out
                 have hnc42 := NB360_365.out
                 have hnb43 := NB365_361.out
                 have hnc43 := NB361_365.out
                 obtain ⟨hcz44_0, hcz44_1, hfz44_0, hfz44_1⟩ := cz2 BK365
                 obtain ⟨Ao45, co45, eo45⟩ := Kd.xx HO_366001.out
                 subst eo45
                 have p368 : 0 ≤ ((ji32) : Int) := of_decide_eq_true (by assumption)
                 have q368 : (ji32) < (x366001_2.length : Int) := of_decide_eq_true (by assumption)
                 obtain ⟨ad368, e368, hx368_0⟩ := Kd.jy (Kd.jF HO_366001.out).2.2 (ji32) p368 q368
                 cases e368
                 replace p368 := eq_true p368
                 replace q368 := eq_true q368
                 have p35 : 0 ≤ ((ji32) : Int) := of_decide_eq_true (by assumption)
                 have q35 : ((ji32) : Int) < ((x366001_2.length : Int) : Int) := of_decide_eq_true (by assumption)
                 obtain ⟨go35, co35, eo35, gb35, gl35, cl35, HG35⟩ := Kd.zEb HO_366001.out (by omega)
                 (first | cases eo35 | (injection eo35 with ea_ en_ ec_; (first | subst ea_ | (injection ea_ with ea_; subst ea_)); subst ec_; clear en_))
                 have GB35 := zQ.mk gb35
                 have GG35 := zQ.mk HG35
                 clear gb35 gl35 HG35
                 (first | simp only [add_plain] at hx368_0 | skip)
                 obtain ⟨hx35_0, hf35_0⟩ := Kd.uV 0 HO_366001.out ((ji32) : Int) p35 q35
                 replace p35 := eq_true p35
                 replace q35 := eq_true q35
                 have HP46 := Kd.qYd HO_366001.out ((ji32) : Int) (wrap64 ((rd x366001_2 (ji32)) + (wrap64 ((rd l0_1 x29_1) * (rd l1_1 x37_2)))))
                 try go_wp2_with (first | ((with_reducible refine zJn (t := 3) (p := 53) rfl ?_); refine zZz (t := 3) (p := 53) (v := ?vo_w47) (w1 := (wr.setCell ⟨go35, ((ji32) : Int).toNat, none⟩ (.int .i64 (wrap64 ((rd x366001_2 (ji32)) + (wrap64 ((rd l0_1 x29_1) * (rd l1_1 x37_2)))))))) ?hg ?ho ?hn ?hr ?_; (case ho => rfl); (case hg => rfl); (case hn => rfl); (case hr => first | (go_simp; done) | (go_simp; rfl)); intro w47 hw; have hg : wr.grownBy w47 (some go35) := (by rw [hw]; exact HP46.2); have hp_ : Kd.R (Kd.int .i64) 3 w47 w.heap.size (fun k_ => (w.heap.size ≤ k_)) (.slice (some ⟨go35, 0, none⟩) x366001_2.length co45) y369 := (by rw [hw, Ny369.out]; exact HP46.1); clear HP46; replace BK359 := zQ.mk (qR (g := gb359) (o := .cells #[.bool a0_0, .slice (some ad366) l0_1.length c0_1] 121 (0, 0)) (zk BK359) hg (Kd.R_ne HO_366001.out BK359.out (by decide))); replace BK360 := zQ.mk (qR (g := gb360) (o := .cells #[.bool a1_0, .slice (some ad367) l1_1.length c1_1] 121 (0, 0)) (zk BK360) hg (Kd.R_ne HO_366001.out BK360.out (by decide))); replace BK361 := zQ.mk (qR (g := gb361) (o := .cells #[.bool false, .slice none 0 0] 121 (0, 0)) (zk BK361) hg (Kd.R_ne HO_366001.out BK361.out (by decide))); replace BK365 := zQ.mk (qR (g := gb365) (o := .cells #[.bool (!(a0_0 == a1_0)), .slice (some ⟨go35, 0, none⟩) x366001_2.length co45] 121 (0, 0)) (zk BK365) hg (Kd.R_ne HO_366001.out BK365.out (by decide))); replace HO_366001 := zQ.mk (hp_); replace HB := zQ.mk ((by rw [hw]; exact jG (HB.out) GB35.out : Below w.heap.size w w47)); clear hg hw hp_))
                 have n0_ := zQ.mk (Kd.xw HO_366001.out)
                 have n1_ := zQ.mk (zK BK359.out)
                 have n2_ := zQ.mk (zK BK360.out)
                 have n3_ := zQ.mk (zK BK361.out)
                 have n4_ := zQ.mk (zK BK365.out)
                 have n5_ := zQ.mk (qD HB.out)
                 clear HO_366001
                 clear BK359
                 clear BK360
                 clear BK361
                 clear BK365
                 clear HB
                 have HO_366001 := n0_
                 have BK359 := n1_
                 have BK360 := n2_
                 have BK361 := n3_
                 have BK365 := n4_
                 have HB := n5_
                 clear n0_ n1_ n2_ n3_ n4_ n5_
                 have p370 : 0 ≤ ((ji36) : Int) := of_decide_eq_true (by assumption)
                 have q370 : (ji36) < (y369.length : Int) := (by have h_ : ((ji36) : Int) < ((x366001_2.length : Int) : Int) := of_decide_eq_true (by assumption); first | (have e_ := (Kd.jF HO_366001.out).1; omega) | simpa only [Ny369.out, List.length_set] using h_)
                 have ql370 : (((ji36) : Int) < ((x366001_2.length : Int) : Int)) = True := eq_true (of_decide_eq_true (by assumption))
                 obtain ⟨ad370, e370, hx370_0⟩ := Kd.jy (Kd.jF HO_366001.out).2.2 (ji36) p370 q370
                 obtain rfl : (⟨go35, 0, none⟩ : Addr) = ad370 := (by injection e370)
                 (first | simp only [add_plain] at hx370_0 | simp only [qJj] at hx370_0 | simp only [Addr.add, Nat.zero_add] at hx370_0 | skip)
                 replace p370 := eq_true p370
                 replace q370 := eq_true q370
                 have p371 : 0 ≤ ((ji32) : Int) := of_decide_eq_true (by assumption)
                 have q371 : (ji32) < (y369.length : Int) := (by have h_ : ((ji32) : Int) < ((x366001_2.length : Int) : Int) := of_decide_eq_true (by assumption); first | (have e_ := (Kd.jF HO_366001.out).1; omega) | simpa only [Ny369.out, List.length_set] using h_)
                 have ql371 : (((ji32) : Int) < ((x366001_2.length : Int) : Int)) = True := eq_true (of_decide_eq_true (by assumption))
                 obtain ⟨ad371, e371, hx371_0⟩ := Kd.jy (Kd.jF HO_366001.out).2.2 (ji32) p371 q371
                 obtain rfl : (⟨go35, 0, none⟩ : Addr) = ad371 := (by injection e371)
                 (first | simp only [add_plain] at hx371_0 | simp only [qJj] at hx371_0 | simp only [Addr.add, Nat.zero_add] at hx371_0 | skip)
                 replace p371 := eq_true p371
                 replace q371 := eq_true q371
                 have p39 : 0 ≤ ((ji36) : Int) := of_decide_eq_true (by assumption)
                 have q39 : ((ji36) : Int) < ((x366001_2.length : Int) : Int) := of_decide_eq_true (by assumption)
                 obtain ⟨hx39_0, hf39_0⟩ := Kd.uV 0 HO_366001.out ((ji36) : Int) p39 q39
                 replace p39 := eq_true p39
                 replace q39 := eq_true q39
                 have HP49 := Kd.zQv HO_366001.out ((ji36) : Int) (wrap64 ((rd y369 (ji36)) + (wrap64 (Int.tdiv (rd y369 (ji32)) 1000000))))
                 rw [← Ny372.out] at HP49
                 have HQ49 := zQ.mk HP49
                 clear HP49
                 refine uH (n := 19) (S := fun w' => w'.cell? ⟨gb365, 0, none⟩ = some (.bool (!(a0_0 == a1_0))) ∧ w'.cell? ⟨gb365, 1, none⟩ = some (.slice (some ⟨go35, 0, none⟩) x366001_2.length co45) ∧ w'.cell? ⟨go35, ((ji36)).toNat, none⟩ = some (.int .i64 (rd y369 (ji36))) ∧ w'.cell? ⟨go35, ((ji32)).toNat, none⟩ = some (.int .i64 (rd y369 (ji32)))) (ds := [18]) (bm 19 0) (by kernel_rfl) rfl rfl ⟨(zx BK365.out 0).trans rfl, (zx BK365.out 1).trans rfl, hx370_0, hx371_0⟩ (fun hHeld => ?_); refine vF zV.tab9 zV.qQh (fun HT_ HW_ => ?_)
                 generalize w47.drew = w48 at HO_366001 BK359 BK360 BK361 BK365 HB HQ49 hf39_0 hx370_0 hx371_0 hx39_0 hHeld ⊢
                 refine pu 0 54 (bm 19 1) HT_ ?_
                 refine pu 2 56 (bm 19 5) HT_ ?_
                 refine pu 3 57 (bm 19 13) HT_ ?_
                 refine pu 4 58 (bm 19 29) HT_ ?_
                 refine pu 5 59 (bm 19 61) HT_ ?_
                 refine pu 8 62 (bm 19 317) HT_ ?_
                 refine pu 10 64 (bm 19 1341) HT_ ?_
                 refine pu 11 65 (bm 19 3389) HT_ ?_
                 refine pu 12 66 (bm 19 7485) HT_ ?_
                 refine ta4 1 55 (bm 19 7487) HT_ HW_ hHeld ?_
                 refine pu 6 60 (bm 19 7551) HT_ ?_
                 refine ta4 7 61 (bm 19 7679) HT_ HW_ hHeld ?_
                 refine ta4 9 63 (bm 19 8191) HT_ HW_ hHeld ?_
                 refine pu 13 67 (bm 19 16383) HT_ ?_
                 refine ta4 14 68 (bm 19 32767) HT_ HW_ hHeld ?_
                 refine pu 15 69 (bm 19 65535) HT_ ?_
                 refine pu 16 70 (bm 19 131071) HT_ ?_
                 refine pu 17 71 (bm 19 262143) HT_ ?_
                 refine qKk (i := 18) (N := none) (bm 19 524287) rfl rfl (yN HT_.out (by kernel_rfl)) (by decide) (fun K hK => ?_)
                 refine zCg (w1 := ?_) (by rfl) rfl ?_ ?_
                 rotate_left
                 ·go_simp
                  rfl
                 refine hK.out _ _ ?_
                 clear hK K
                 refine zQh (uq HT_.out (by kernel_rfl)) ?_
                 have n0_ : zQ (Kd.R (Kd.int .i64) 3 (w48.setCell ⟨go35, ((ji36) : Int).toNat, none⟩ (.int .i64 (wrap64 ((rd y369 (ji36)) + (wrap64 (Int.tdiv (rd y369 (ji32)) 1000000)))))) w.heap.size (fun k_ => (w.heap.size ≤ k_)) (.slice (some ⟨go35, 0, none⟩) x366001_2.length co45) y372) := ⟨by (with_reducible repeat (first | apply Kd.xU | apply Kd.xS | apply Kd.xw)); exact HQ49.out⟩
                 have n1_ : zQ ((w48.setCell ⟨go35, ((ji36) : Int).toNat, none⟩ (.int .i64 (wrap64 ((rd y369 (ji36)) + (wrap64 (Int.tdiv (rd y369 (ji32)) 1000000)))))).heap[gb359]? = some (.cells #[.bool a0_0, .slice (some ad366) l0_1.length c0_1] 121 (0, 0))) := ⟨by (with_reducible repeat (first | refine zJ ?_ _ | refine zK ?_ | refine zZ ?_ _)); refine zF ?_ (by have h_ := Kd.R_ne HO_366001.out BK359.out (by decide); intro e_; exact h_ (by rw [e_]; rfl)) _; exact zk BK359⟩
                 have n2_ : zQ ((w48.setCell ⟨go35, ((ji36) : Int).toNat, none⟩ (.int .i64 (wrap64 ((rd y369 (ji36)) + (wrap64 (Int.tdiv (rd y369 (ji32)) 1000000)))))).heap[gb360]? = some (.cells #[.bool a1_0, .slice (some ad367) l1_1.length c1_1] 121 (0, 0))) := ⟨by (with_reducible repeat (first | refine zJ ?_ _ | refine zK ?_ | refine zZ ?_ _)); refine zF ?_ (by have h_ := Kd.R_ne HO_366001.out BK360.out (by decide); intro e_; exact h_ (by rw [e_]; rfl)) _; exact zk BK360⟩
                 have n3_ : zQ ((w48.setCell ⟨go35, ((ji36) : Int).toNat, none⟩ (.int .i64 (wrap64 ((rd y369 (ji36)) + (wrap64 (Int.tdiv (rd y369 (ji32)) 1000000)))))).heap[gb361]? = some (.cells #[.bool false, .slice none 0 0] 121 (0, 0))) := ⟨by (with_reducible repeat (first | refine zJ ?_ _ | refine zK ?_ | refine zZ ?_ _)); refine zF ?_ (by have h_ := Kd.R_ne HO_366001.out BK361.out (by decide); intro e_; exact h_ (by rw [e_]; rfl)) _; exact zk BK361⟩
                 have n4_ : zQ ((w48.setCell ⟨go35, ((ji36) : Int).toNat, none⟩ (.int .i64 (wrap64 ((rd y369 (ji36)) + (wrap64 (Int.tdiv (rd y369 (ji32)) 1000000)))))).heap[gb365]? = some (.cells #[.bool (!(a0_0 == a1_0)), .slice (some ⟨go35, 0, none⟩) x366001_2.length co45] 121 (0, 0))) := ⟨by (with_reducible repeat (first | refine zJ ?_ _ | refine zK ?_ | refine zZ ?_ _)); refine zF ?_ (by have h_ := Kd.R_ne HO_366001.out BK365.out (by decide); intro e_; exact h_ (by rw [e_]; rfl)) _; exact zk BK365⟩
                 have n5_ : zQ (Below w.heap.size w (w48.setCell ⟨go35, ((ji36) : Int).toNat, none⟩ (.int .i64 (wrap64 ((rd y369 (ji36)) + (wrap64 (Int.tdiv (rd y369 (ji32)) 1000000))))))) := ⟨(zb w)⟩
                 (try clear HO_366001)
                 (try clear BK359)
                 (try clear BK360)
                 (try clear BK361)
                 (try clear BK365)
                 (try clear HB)
                 generalize (w48.setCell ⟨go35, ((ji36) : Int).toNat, none⟩ (.int .i64 (wrap64 ((rd y369 (ji36)) + (wrap64 (Int.tdiv (rd y369 (ji32)) 1000000)))))) = w50 at n0_ n1_ n2_ n3_ n4_ n5_ ⊢
                 have HO_366001 := n0_
                 have BK359 := n1_
                 have BK360 := n2_
                 have BK361 := n3_
                 have BK365 := n4_
                 have HB := n5_
                 clear n0_ n1_ n2_ n3_ n4_ n5_
                 obtain ⟨hcz51_0, hcz51_1, hfz51_0, hfz51_1⟩ := cz2 BK365
                 have p373 : 0 ≤ ((ji32) : Int) := of_decide_eq_true (by assumption)
                 have q373 : (ji32) < (y372.length : Int) := (by have h_ : ((ji32) : Int) < ((x366001_2.length : Int) : Int) := of_decide_eq_true (by assumption); first | (have e_ := (Kd.jF HO_366001.out).1; omega) | simpa only [Ny369.out, Ny372.out, List.length_set] using h_)
                 have ql373 : (((ji32) : Int) < ((x366001_2.length : Int) : Int)) = True := eq_true (of_decide_eq_true (by assumption))
                 obtain ⟨ad373, e373, hx373_0⟩ := Kd.jy (Kd.jF HO_366001.out).2.2 (ji32) p373 q373
                 obtain rfl : (⟨go35, 0, none⟩ : Addr) = ad373 := (by injection e373)
                 (first | simp only [add_plain] at hx373_0 | simp only [qJj] at hx373_0 | simp only [Addr.add, Nat.zero_add] at hx373_0 | skip)
                 replace p373 := eq_true p373
                 replace q373 := eq_true q373
                 have p40 : 0 ≤ ((ji32) : Int) := of_decide_eq_true (by assumption)
                 have q40 : ((ji32) : Int) < ((x366001_2.length : Int) : Int) := of_decide_eq_true (by assumption)
                 obtain ⟨hx40_0, hf40_0⟩ := Kd.uV 0 HO_366001.out ((ji32) : Int) p40 q40
                 replace p40 := eq_true p40
                 replace q40 := eq_true q40
                 obtain ⟨hy52_, hz52_⟩ := Kd.uV 0 HO_366001.out ((ji32) : Int) (of_decide_eq_true (by assumption)) (of_decide_eq_true (by assumption))
                 have HP52 := Kd.qYd HO_366001.out ((ji32) : Int) (Int.tmod (rd y372 (ji32)) 1000000)
                 try go_wp2_with (first | ((with_reducible refine zJn (t := 3) (p := 80) rfl ?_); refine zZz (t := 3) (p := 80) (v := ?vo_w53) (w1 := (w50.setCell ⟨go35, ((ji32) : Int).toNat, none⟩ (.int .i64 (Int.tmod (rd y372 (ji32)) 1000000)))) ?hg ?ho ?hn ?hr ?_; (case ho => rfl); (case hg => rfl); (case hn => rfl); (case hr => first | (go_simp; done) | (go_simp; rfl)); intro w53 hw; have hg : w50.grownBy w53 (some go35) := (by rw [hw]; exact HP52.2); have hp_ : Kd.R (Kd.int .i64) 3 w53 w.heap.size (fun k_ => (w.heap.size ≤ k_)) (.slice (some ⟨go35, 0, none⟩) x366001_2.length co45) y374 := (by rw [hw, Ny374.out]; exact HP52.1); clear HP52; replace BK359 := zQ.mk (qR (g := gb359) (o := .cells #[.bool a0_0, .slice (some ad366) l0_1.length c0_1] 121 (0, 0)) (zk BK359) hg (Kd.R_ne HO_366001.out BK359.out (by decide))); replace BK360 := zQ.mk (qR (g := gb360) (o := .cells #[.bool a1_0, .slice (some ad367) l1_1.length c1_1] 121 (0, 0)) (zk BK360) hg (Kd.R_ne HO_366001.out BK360.out (by decide))); replace BK361 := zQ.mk (qR (g := gb361) (o := .cells #[.bool false, .slice none 0 0] 121 (0, 0)) (zk BK361) hg (Kd.R_ne HO_366001.out BK361.out (by decide))); replace BK365 := zQ.mk (qR (g := gb365) (o := .cells #[.bool (!(a0_0 == a1_0)), .slice (some ⟨go35, 0, none⟩) x366001_2.length co45] 121 (0, 0)) (zk BK365) hg (Kd.R_ne HO_366001.out BK365.out (by decide))); replace HO_366001 := zQ.mk (hp_); replace HB := zQ.mk ((by rw [hw]; exact jG (HB.out) GB35.out : Below w.heap.size w w53)); clear hg hw hp_))
                 go_roundg k2
                 case measure => have := HK1.out; have := HK2.out; omega
                 case rel => exact ⟨(wrap64 (x37_2 + 1)), (y374), (.slice (some ⟨go35, 0, none⟩) x366001_2.length co45), ar, H', ⟨by have := HK1.out; have := HK2.out; omega⟩, ⟨zo HO_366001⟩, ⟨(zk BK359)⟩, ⟨(zk BK360)⟩, ⟨(zk BK361)⟩, ⟨(zk BK365)⟩, ⟨(zb w)⟩⟩
                ·rw [if_neg c38] at H
                 exact absurd H (by simp)
               ·rw [if_neg c37] at H
                exact absurd H (by simp)
              ·rw [if_neg c34] at H
               exact absurd H (by simp)
             ·rw [if_neg c33] at H
              exact absurd H (by simp)
            ·rw [if_neg c31] at H
             exact absurd H (by simp)
           ·rw [if_neg c30] at H
            exact absurd H (by simp)
          ·rw [if_neg c29] at H
           have c29b0 : decide (x37_2 < (l1_1.length : Int)) = false := decide_eq_false c29
           clear c29
           have H' := zQ.mk H
           clear H
           go_wp2
           go_roundg k2
           case measure => have := HK1.out; have := HK2.out; omega
           case rel => exact ⟨(wrap64 (x29_1 + 1)), (x366001_2), (u366001), ar, H', ⟨by have := HK1.out; have := HK2.out; omega⟩, ⟨zo HO_366001⟩, ⟨(zk BK359)⟩, ⟨(zk BK360)⟩, ⟨(zk BK361)⟩, ⟨(zk BK365)⟩, ⟨(zb w)⟩⟩
       ·rw [if_neg c24] at H
        exact absurd H (by simp)
      ·rw [if_neg c23] at H
       exact absurd H (by simp)
     ·rw [if_neg c22] at H
      have c22b0 : decide (x29_1 < (l0_1.length : Int)) = false := decide_eq_false c22
      clear c22
      have H' := zQ.mk H
      clear H
      have hnb54 := NB365_359.out
      have hnc54 := NB359_365.out
      have hnb55 := NB365_360.out
      have hnc55 := NB360_365.out
      have hnb56 := NB365_361.out
      have hnc56 := NB361_365.out
      obtain ⟨hcz57_0, hcz57_1, hfz57_0, hfz57_1⟩ := cz2 BK365
      obtain ⟨Ao58, co58, eo58⟩ := Kd.xx HO_366001.out
      subst eo58
      go_wp2
      try simp only [sq]
      go_loopg [87] k1 (fun kq v87 w' => ∃ (x87_2 : Int) (x366001_2 : List Int) (u366001 : Value), v87 = .int .i64 x87_2 ∧ zQ (zV.l2 kq (wrap64 ((x366001_1.length : Int) - 1)) x87_2 (!(a0_0 == a1_0)) x366001_2 = some (r1, r2)) ∧ zQ (kq ≤ k1) ∧ zQ (Kd.R (Kd.int .i64) 3 w' w.heap.size (fun k_ => (w.heap.size ≤ k_)) u366001 x366001_2) ∧ zQ (w'.heap[gb359]? = some (.cells #[.bool a0_0, (.slice A0_1 l0_1.length c0_1)] 121 (0, 0))) ∧ zQ (w'.heap[gb360]? = some (.cells #[.bool a1_0, (.slice A1_1 l1_1.length c1_1)] 121 (0, 0))) ∧ zQ (w'.heap[gb361]? = some (.cells #[.bool false, (.slice none 0 0)] 121 (0, 0))) ∧ zQ (w'.heap[gb365]? = some (.cells #[.bool (!(a0_0 == a1_0)), u366001] 121 (0, 0))) ∧ zQ (Below w.heap.size w w'))
      case atStart => exact ⟨(0), (x366001_1), (.slice Ao58 x366001_1.length co58), ar, H', ⟨Nat.le_refl _⟩, ⟨zo HO_366001⟩, ⟨(zk BK359)⟩, ⟨(zk BK360)⟩, ⟨(zk BK361)⟩, ⟨(zk BK365)⟩, ⟨(zb w)⟩⟩
      case round =>
       clear H'
       try clear c1
       try clear c2
       try clear p2
       try clear c3
       try clear p3
       try clear q3
       try clear hx3
       try clear hf3
       try clear c4
       try clear c4b0
       try clear c4b1
       try clear p4
       try clear q4
       try clear hx4
       try clear hf4
       try clear c5
       try clear c5b0
       try clear c5b1
       try clear p6
       try clear c10
       try clear c18
       try clear c19
       try clear c20
       try clear c22
       try clear c22b0
       try clear c23
       try clear c23b0
       try clear c24
       try clear c24b0
       try clear c25
       try clear c26
       try clear c27
       try clear c29
       try clear c29b0
       try clear c30
       try clear c30b0
       try clear c31
       try clear c31b0
       try clear c33
       try clear c33b0
       try clear c34
       try clear c34b0
       try clear p35
       try clear q35
       try clear hx35
       try clear hf35
       try clear p36
       try clear q36
       try clear hx36
       try clear c37
       try clear c37b0
       try clear p37
       try clear q37
       try clear hx37
       try clear c38
       try clear c38b0
       try clear p39
       try clear q39
       try clear hx39
       try clear hf39
       try clear p40
       try clear q40
       try clear hx40
       try clear hf40
       try clear c41
       try clear c42
       try clear c43
       try clear c54
       try clear c55
       try clear c56
       try clear hcz21_0 hcz21_1
       try clear hcz28_0 hcz28_1
       try clear hcz44_0 hcz44_1
       try clear hcz51_0 hcz51_1
       try clear hcz57_0 hcz57_1
       try clear hfz21_0 hfz21_1
       try clear hfz28_0 hfz28_1
       try clear hfz44_0 hfz44_1
       try clear hfz51_0 hfz51_1
       try clear hfz57_0 hfz57_1
       try clear hx35_0
       try clear hx366_0
       try clear hx367_0
       try clear hx368_0
       try clear hx370_0
       try clear hx371_0
       try clear hx373_0
       try clear hx39_0
       try clear hx40_0
       try clear p2
       try clear p3
       try clear p35
       try clear p366
       try clear p367
       try clear p368
       try clear p370
       try clear p371
       try clear p373
       try clear p39
       try clear p40
       try clear p6
       try clear q3
       try clear q35
       try clear q366
       try clear q367
       try clear q368
       try clear q370
       try clear q371
       try clear q373
       try clear q39
       try clear q40
       obtain ⟨x87_2, x366001_2, u366001, rfl, HA, HK2, HO_366001, BK359, BK360, BK361, BK365, HB⟩ := hrel
       cases gk with
       | zero => exact absurd HA.out (by simp [zV.l2])
       | succ k2 =>
        have H := HA.out
        clear HA
        simp only [zV.l2] at H
        by_cases c59 : x87_2 < (wrap64 ((x366001_1.length : Int) - 1))
        ·rw [if_pos c59] at H
         have c59b0 : decide (x87_2 < (wrap64 ((x366001_1.length : Int) - 1))) = true := decide_eq_true c59
         clear c59
         obtain ⟨ji60, hji60⟩ : ∃ j_ : Int, (wrap64 (x87_2 + 1)) = j_ := ⟨_, rfl⟩
         replace H : (if 0 ≤ (ji60) then (if (ji60) < (x366001_2.length : Int) then (if 0 ≤ x87_2 then (if x87_2 < (x366001_2.length : Int) then ((some (x366001_2.set ((ji60) : Int).toNat (wrap64 ((rd x366001_2 (ji60)) + (wrap64 (Int.tdiv (rd x366001_2 x87_2) 1000000)))) : List Int)).bind fun y377 => (zV.l2 k2 (wrap64 ((x366001_1.length : Int) - 1)) ji60 (!(a0_0 == a1_0)) (y377.set (x87_2 : Int).toNat (Int.tmod (rd y377 x87_2) 1000000)))) else (none)) else (none)) else (none)) else (none)) = some (r1, r2) := by first | (rw [hji60] at H; exact H) | (simp only [hji60] at H ⊢; exact H)
         have hji60w : (IntKind.i64.wrap (x87_2 + 1)) = ji60 := (jw _).trans hji60
         by_cases c61 : 0 ≤ (ji60)
         ·rw [if_pos c61] at H
          have c61b0 : decide (0 ≤ (ji60)) = true := decide_eq_true c61
          clear c61
          by_cases c62 : (ji60) < (x366001_2.length : Int)
          ·rw [if_pos c62] at H
           have c62b0 : decide ((ji60) < (x366001_2.length : Int)) = true := decide_eq_true c62
           clear c62
           by_cases c63 : 0 ≤ x87_2
           ·rw [if_pos c63] at H
            have c63b0 : decide (0 ≤ x87_2) = true := decide_eq_true c63
            clear c63
            by_cases c64 : x87_2 < (x366001_2.length : Int)
            ·rw [if_pos c64] at H
             have c64b0 : decide (x87_2 < (x366001_2.length : Int)) = true := decide_eq_true c64
             clear c64
             obtain ⟨y377, hy377⟩ : ∃ y_ : List Int, y_ = (x366001_2.set ((ji60) : Int).toNat (wrap64 ((rd x366001_2 (ji60)) + (wrap64 (Int.tdiv (rd x366001_2 x87_2) 1000000))))) := ⟨_, rfl⟩
             replace H : (zV.l2 k2 (wrap64 ((x366001_1.length : Int) - 1)) ji60 (!(a0_0 == a1_0)) (y377.set (x87_2 : Int).toNat (Int.tmod (rd y377 x87_2) 1000000))) = some (r1, r2) := by first | (rw [hy377]; with_reducible exact H) | (have H2_ := (Option.bind_some _ _).symm.trans H; rw [hy377]; with_reducible exact H2_) | (have H2_ := (Option.bind_some _ _).symm.trans H; with_reducible exact H2_) | with_reducible exact H | (rw [hy377]; exact H) | exact H
             have Ny377 := zQ.mk hy377
             clear hy377
             obtain ⟨y379, hy379⟩ : ∃ y_ : List Int, y_ = (y377.set (x87_2 : Int).toNat (Int.tmod (rd y377 x87_2) 1000000)) := ⟨_, rfl⟩
             replace H : (zV.l2 k2 (wrap64 ((x366001_1.length : Int) - 1)) ji60 (!(a0_0 == a1_0)) y379) = some (r1, r2) := by first | (rw [hy379]; with_reducible exact H) | (have H2_ := (Option.bind_some _ _).symm.trans H; rw [hy379]; with_reducible exact H2_) | (have H2_ := (Option.bind_some _ _).symm.trans H; with_reducible exact H2_) | with_reducible exact H | (rw [hy379]; exact H) | exact H
             have Ny379 := zQ.mk hy379
             clear hy379
             have H' := zQ.mk H
             clear H
             try go_wp2
             have n0_ := zQ.mk (Kd.xw HO_366001.out)
             have n1_ := zQ.mk (zK BK359.out)
             have n2_ := zQ.mk (zK BK360.out)
             have n3_ := zQ.mk (zK BK361.out)
             have n4_ := zQ.mk (zK BK365.out)
             have n5_ := zQ.mk (qD HB.out)
             clear HO_366001
             clear BK359
             clear BK360
             clear BK361
             clear BK365
             clear HB
             have HO_366001 := n0_
             have BK359 := n1_
             have BK360 := n2_
             have BK361 := n3_
             have BK365 := n4_
             have HB := n5_
             clear n0_ n1_ n2_ n3_ n4_ n5_
             obtain ⟨Ao68, co68, eo68⟩ := Kd.xx HO_366001.out
             (first | subst eo68 | (injection eo68 with f1_ f2_ f3_; have f4_ := f1_.symm; have f5_ := f3_.symm; clear f1_ f2_ f3_; subst f4_; subst f5_))
             have p375 : 0 ≤ ((ji60) : Int) := of_decide_eq_true (by assumption)
             have q375 : (ji60) < (x366001_2.length : Int) := of_decide_eq_true (by assumption)
             obtain ⟨ad375, e375, hx375_0⟩ := Kd.jy (Kd.jF HO_366001.out).2.2 (ji60) p375 q375
             cases e375
             replace p375 := eq_true p375
             replace q375 := eq_true q375
             have p376 : 0 ≤ (x87_2 : Int) := of_decide_eq_true (by assumption)
             have q376 : x87_2 < (x366001_2.length : Int) := of_decide_eq_true (by assumption)
             obtain ⟨ad376, e376, hx376_0⟩ := Kd.jy (Kd.jF HO_366001.out).2.2 x87_2 p376 q376
             obtain rfl : ad375 = ad376 := (by injection e376)
             replace p376 := eq_true p376
             replace q376 := eq_true q376
             have p65 : 0 ≤ ((ji60) : Int) := of_decide_eq_true (by assumption)
             have q65 : ((ji60) : Int) < ((x366001_2.length : Int) : Int) := of_decide_eq_true (by assumption)
             obtain ⟨go65, co65, eo65, gb65, gl65, cl65, HG65⟩ := Kd.zEb HO_366001.out (by omega)
             (first | cases eo65 | (injection eo65 with ea_ en_ ec_; (first | subst ea_ | (injection ea_ with ea_; subst ea_)); subst ec_; clear en_))
             have GB65 := zQ.mk gb65
             have GG65 := zQ.mk HG65
             clear gb65 gl65 HG65
             (first | simp only [add_plain] at hx375_0 | skip)
             (first | simp only [add_plain] at hx376_0 | skip)
             obtain ⟨hx65_0, hf65_0⟩ := Kd.uV 0 HO_366001.out ((ji60) : Int) p65 q65
             replace p65 := eq_true p65
             replace q65 := eq_true q65
             have HP69 := Kd.zQv HO_366001.out ((ji60) : Int) (wrap64 ((rd x366001_2 (ji60)) + (wrap64 (Int.tdiv (rd x366001_2 x87_2) 1000000))))
             rw [← Ny377.out] at HP69
             have HQ69 := zQ.mk HP69
             clear HP69
             refine uH (n := 15) (S := fun w' => w'.cell? ⟨gb365, 0, none⟩ = some (.bool (!(a0_0 == a1_0))) ∧ w'.cell? ⟨gb365, 1, none⟩ = some (.slice (some ⟨go65, 0, none⟩) x366001_2.length co68) ∧ w'.cell? ⟨go65, ((ji60)).toNat, none⟩ = some (.int .i64 (rd x366001_2 (ji60))) ∧ w'.cell? ⟨go65, (x87_2).toNat, none⟩ = some (.int .i64 (rd x366001_2 x87_2))) (ds := [14]) (bm 15 0) (by kernel_rfl) rfl rfl ⟨(zx BK365.out 0).trans rfl, (zx BK365.out 1).trans rfl, hx375_0, hx376_0⟩ (fun hHeld => ?_); refine vF zV.tab16 zV.bits16 (fun HT_ HW_ => ?_)
             generalize wr.drew = w67 at HO_366001 BK359 BK360 BK361 BK365 HB GG65 HQ69 hf65_0 hx375_0 hx376_0 hx65_0 hHeld ⊢
             refine pu 0 90 (bm 15 1) HT_ ?_
             refine pu 2 92 (bm 15 5) HT_ ?_
             refine pu 3 93 (bm 15 13) HT_ ?_
             refine pu 6 96 (bm 15 77) HT_ ?_
             refine pu 8 98 (bm 15 333) HT_ ?_
             refine ta4 1 91 (bm 15 335) HT_ HW_ hHeld ?_
             refine pu 4 94 (bm 15 351) HT_ ?_
             refine ta4 5 95 (bm 15 383) HT_ HW_ hHeld ?_
             refine ta4 7 97 (bm 15 511) HT_ HW_ hHeld ?_
             refine pu 9 99 (bm 15 1023) HT_ ?_
             refine ta4 10 100 (bm 15 2047) HT_ HW_ hHeld ?_
             refine pu 11 101 (bm 15 4095) HT_ ?_
             refine pu 12 102 (bm 15 8191) HT_ ?_
             refine pu 13 103 (bm 15 16383) HT_ ?_
             refine qKk (i := 14) (N := none) (bm 15 32767) rfl rfl (yN HT_.out (by kernel_rfl)) (by decide) (fun K hK => ?_)
             refine zCg (w1 := ?_) (by rfl) rfl ?_ ?_
             rotate_left
             ·go_simp
              rfl
             refine hK.out _ _ ?_
             clear hK K
             refine zQh (uq HT_.out (by kernel_rfl)) ?_
             have n0_ : zQ (Kd.R (Kd.int .i64) 3 (w67.setCell ⟨go65, ((ji60) : Int).toNat, none⟩ (.int .i64 (wrap64 ((rd x366001_2 (ji60)) + (wrap64 (Int.tdiv (rd x366001_2 x87_2) 1000000)))))) w.heap.size (fun k_ => (w.heap.size ≤ k_)) (.slice (some ⟨go65, 0, none⟩) x366001_2.length co68) y377) := ⟨by (with_reducible repeat (first | apply Kd.xU | apply Kd.xS | apply Kd.xw)); exact HQ69.out⟩
             have n1_ : zQ ((w67.setCell ⟨go65, ((ji60) : Int).toNat, none⟩ (.int .i64 (wrap64 ((rd x366001_2 (ji60)) + (wrap64 (Int.tdiv (rd x366001_2 x87_2) 1000000)))))).heap[gb359]? = some (.cells #[.bool a0_0, .slice A0_1 l0_1.length c0_1] 121 (0, 0))) := ⟨by (with_reducible repeat (first | refine zJ ?_ _ | refine zK ?_ | refine zZ ?_ _)); refine zF ?_ (by have h_ := Kd.R_ne HO_366001.out BK359.out (by decide); intro e_; exact h_ (by rw [e_]; rfl)) _; exact zk BK359⟩
             have n2_ : zQ ((w67.setCell ⟨go65, ((ji60) : Int).toNat, none⟩ (.int .i64 (wrap64 ((rd x366001_2 (ji60)) + (wrap64 (Int.tdiv (rd x366001_2 x87_2) 1000000)))))).heap[gb360]? = some (.cells #[.bool a1_0, .slice A1_1 l1_1.length c1_1] 121 (0, 0))) := ⟨by (with_reducible repeat (first | refine zJ ?_ _ | refine zK ?_ | refine zZ ?_ _)); refine zF ?_ (by have h_ := Kd.R_ne HO_366001.out BK360.out (by decide); intro e_; exact h_ (by rw [e_]; rfl)) _; exact zk BK360⟩
             have n3_ : zQ ((w67.setCell ⟨go65, ((ji60) : Int).toNat, none⟩ (.int .i64 (wrap64 ((rd x366001_2 (ji60)) + (wrap64 (Int.tdiv (rd x366001_2 x87_2) 1000000)))))).heap[gb361]? = some (.cells #[.bool false, .slice none 0 0] 121 (0, 0))) := ⟨by (with_reducible repeat (first | refine zJ ?_ _ | refine zK ?_ | refine zZ ?_ _)); refine zF ?_ (by have h_ := Kd.R_ne HO_366001.out BK361.out (by decide); intro e_; exact h_ (by rw [e_]; rfl)) _; exact zk BK361⟩
             have n4_ : zQ ((w67.setCell ⟨go65, ((ji60) : Int).toNat, none⟩ (.int .i64 (wrap64 ((rd x366001_2 (ji60)) + (wrap64 (Int.tdiv (rd x366001_2 x87_2) 1000000)))))).heap[gb365]? = some (.cells #[.bool (!(a0_0 == a1_0)), .slice (some ⟨go65, 0, none⟩) x366001_2.length co68] 121 (0, 0))) := ⟨by (with_reducible repeat (first | refine zJ ?_ _ | refine zK ?_ | refine zZ ?_ _)); refine zF ?_ (by have h_ := Kd.R_ne HO_366001.out BK365.out (by decide); intro e_; exact h_ (by rw [e_]; rfl)) _; exact zk BK365⟩
             have n5_ : zQ (Below w.heap.size w (w67.setCell ⟨go65, ((ji60) : Int).toNat, none⟩ (.int .i64 (wrap64 ((rd x366001_2 (ji60)) + (wrap64 (Int.tdiv (rd x366001_2 x87_2) 1000000))))))) := ⟨(zb w)⟩
             (try clear HO_366001)
             (try clear BK359)
             (try clear BK360)
             (try clear BK361)
             (try clear BK365)
             (try clear HB)
             generalize (w67.setCell ⟨go65, ((ji60) : Int).toNat, none⟩ (.int .i64 (wrap64 ((rd x366001_2 (ji60)) + (wrap64 (Int.tdiv (rd x366001_2 x87_2) 1000000)))))) = w70 at n0_ n1_ n2_ n3_ n4_ n5_ ⊢
             have HO_366001 := n0_
             have BK359 := n1_
             have BK360 := n2_
             have BK361 := n3_
             have BK365 := n4_
             have HB := n5_
             clear n0_ n1_ n2_ n3_ n4_ n5_
             have hnb71 := NB365_359.out
             have hnc71 := NB359_365.out
             have hnb72 := NB365_360.out
             have hnc72 := NB360_365.out
             have hnb73 := NB365_361.out
             have hnc73 := NB361_365.out
             obtain ⟨hcz74_0, hcz74_1, hfz74_0, hfz74_1⟩ := cz2 BK365
             have p378 : 0 ≤ (x87_2 : Int) := of_decide_eq_true (by assumption)
             have q378 : x87_2 < (y377.length : Int) := (by have h_ : (x87_2 : Int) < ((x366001_2.length : Int) : Int) := of_decide_eq_true (by assumption); first | (have e_ := (Kd.jF HO_366001.out).1; omega) | simpa only [Ny377.out, List.length_set] using h_)
             have ql378 : ((x87_2 : Int) < ((x366001_2.length : Int) : Int)) = True := eq_true (of_decide_eq_true (by assumption))
             obtain ⟨ad378, e378, hx378_0⟩ := Kd.jy (Kd.jF HO_366001.out).2.2 x87_2 p378 q378
             obtain rfl : (⟨go65, 0, none⟩ : Addr) = ad378 := (by injection e378)
             (first | simp only [add_plain] at hx378_0 | simp only [qJj] at hx378_0 | simp only [Addr.add, Nat.zero_add] at hx378_0 | skip)
             replace p378 := eq_true p378
             replace q378 := eq_true q378
             have p66 : 0 ≤ (x87_2 : Int) := of_decide_eq_true (by assumption)
             have q66 : (x87_2 : Int) < ((x366001_2.length : Int) : Int) := of_decide_eq_true (by assumption)
             obtain ⟨hx66_0, hf66_0⟩ := Kd.uV 0 HO_366001.out (x87_2 : Int) p66 q66
             replace p66 := eq_true p66
             replace q66 := eq_true q66
             obtain ⟨hy75_, hz75_⟩ := Kd.uV 0 HO_366001.out (x87_2 : Int) (of_decide_eq_true (by assumption)) (of_decide_eq_true (by assumption))
             have HP75 := Kd.qYd HO_366001.out (x87_2 : Int) (Int.tmod (rd y377 x87_2) 1000000)
             try go_wp2_with (first | ((with_reducible refine zJn (t := 3) (p := 110) rfl ?_); refine zZz (t := 3) (p := 110) (v := ?vo_w76) (w1 := (w70.setCell ⟨go65, (x87_2 : Int).toNat, none⟩ (.int .i64 (Int.tmod (rd y377 x87_2) 1000000)))) ?hg ?ho ?hn ?hr ?_; (case ho => rfl); (case hg => rfl); (case hn => rfl); (case hr => first | (go_simp; done) | (go_simp; rfl)); intro w76 hw; have hg : w70.grownBy w76 (some go65) := (by rw [hw]; exact HP75.2); have hp_ : Kd.R (Kd.int .i64) 3 w76 w.heap.size (fun k_ => (w.heap.size ≤ k_)) (.slice (some ⟨go65, 0, none⟩) x366001_2.length co68) y379 := (by rw [hw, Ny379.out]; exact HP75.1); clear HP75; replace BK359 := zQ.mk (qR (g := gb359) (o := .cells #[.bool a0_0, .slice A0_1 l0_1.length c0_1] 121 (0, 0)) (zk BK359) hg (Kd.R_ne HO_366001.out BK359.out (by decide))); replace BK360 := zQ.mk (qR (g := gb360) (o := .cells #[.bool a1_0, .slice A1_1 l1_1.length c1_1] 121 (0, 0)) (zk BK360) hg (Kd.R_ne HO_366001.out BK360.out (by decide))); replace BK361 := zQ.mk (qR (g := gb361) (o := .cells #[.bool false, .slice none 0 0] 121 (0, 0)) (zk BK361) hg (Kd.R_ne HO_366001.out BK361.out (by decide))); replace BK365 := zQ.mk (qR (g := gb365) (o := .cells #[.bool (!(a0_0 == a1_0)), .slice (some ⟨go65, 0, none⟩) x366001_2.length co68] 121 (0, 0)) (zk BK365) hg (Kd.R_ne HO_366001.out BK365.out (by decide))); replace HO_366001 := zQ.mk (hp_); replace HB := zQ.mk ((by rw [hw]; exact jG (HB.out) GB65.out : Below w.heap.size w w76)); clear hg hw hp_))
             go_roundg k2
             case measure => have := HK1.out; have := HK2.out; omega
             case rel => exact ⟨(ji60), (y379), (.slice (some ⟨go65, 0, none⟩) x366001_2.length co68), (by first | rfl | (simp; done) | (simp only [← hji60] <;> (first | rfl | simp)) | (simp [*]; done)), H', ⟨by have := HK1.out; have := HK2.out; omega⟩, ⟨zo HO_366001⟩, ⟨(zk BK359)⟩, ⟨(zk BK360)⟩, ⟨(zk BK361)⟩, ⟨(zk BK365)⟩, ⟨(zb w)⟩⟩
            ·rw [if_neg c64] at H
             exact absurd H (by simp)
           ·rw [if_neg c63] at H
            exact absurd H (by simp)
          ·rw [if_neg c62] at H
           exact absurd H (by simp)
         ·rw [if_neg c61] at H
          exact absurd H (by simp)
        ·rw [if_neg c59] at H
         have c59b0 : decide (x87_2 < (wrap64 ((x366001_1.length : Int) - 1))) = false := decide_eq_false c59
         clear c59
         replace H := Option.bind_eq_some_iff.mp H
         obtain ⟨⟨t380, t381⟩, A770, H⟩ := H
         try dsimp only at H
         have A77 := zQ.mk A770
         clear A770
         simp only [Option.some.injEq, Prod.mk.injEq] at H
         obtain ⟨rfl, rfl⟩ := H
         have hnb78 := NB365_359.out
         have hnc78 := NB359_365.out
         have hnb79 := NB365_360.out
         have hnc79 := NB360_365.out
         have hnb80 := NB365_361.out
         have hnc80 := NB361_365.out
         obtain ⟨hcz81_0, hcz81_1, hfz81_0, hfz81_1⟩ := cz2 BK365
         obtain ⟨Ao82, co82, eo82⟩ := Kd.xx HO_366001.out
         subst eo82
         go_wp2_with (first | ((with_reducible refine gC 113 rfl ?_); refine gl_ 113 Tryz.func113 #[.agg #[.bool (!(a0_0 == a1_0)), .slice Ao82 x366001_2.length co82]] ?_; (with_reducible refine (zM.calls k2 (!(a0_0 == a1_0)) (fun k_ => some k_ = (.slice Ao82 x366001_2.length co82 : Value).ownBlock) _ _ x366001_2 t380 t381 _ ?side1 A77.out).mono ?_); (case side1 => exact Kd.R_V (Kd.uU rfl (Kd.zB (Kd.zB (Kd.zB (Kd.zB (HO_366001.out) BK359.out (by decide)) BK360.out (by decide)) BK361.out (by decide)) BK365.out (by decide)))); rintro e w83 ⟨v382, rfl, ho0, hb⟩; refine ⟨_, rfl, ?_⟩; have HO383 := zQ.mk (Kd.xJ (Kd.zR (ok' := fun k_ => (w.heap.size ≤ k_) ∧ k_ ≠ gb359 ∧ k_ ≠ gb360 ∧ k_ ≠ gb361 ∧ k_ ≠ gb365) ho0 (fun k_ hk_ => ⟨Or.elim hk_ (fun hs_ => ((Kd.zB (Kd.zB (Kd.zB (Kd.zB (HO_366001.out) BK359.out (by decide)) BK360.out (by decide)) BK361.out (by decide)) BK365.out (by decide)).1 k_ hs_.symm).1.1.1.1) (fun hn_ => (Nat.le_trans (zy (zb w)) hn_)), Or.elim hk_ (fun hs_ => ((Kd.zB (Kd.zB (Kd.zB (Kd.zB (HO_366001.out) BK359.out (by decide)) BK360.out (by decide)) BK361.out (by decide)) BK365.out (by decide)).1 k_ hs_.symm).1.1.1.2) (fun hn_ => (Kd.qH (g := gb359) (o := .cells #[.bool a0_0, .slice A0_1 l0_1.length c0_1] 121 (0, 0)) (zk BK359) k_ hn_)), Or.elim hk_ (fun hs_ => ((Kd.zB (Kd.zB (Kd.zB (Kd.zB (HO_366001.out) BK359.out (by decide)) BK360.out (by decide)) BK361.out (by decide)) BK365.out (by decide)).1 k_ hs_.symm).1.1.2) (fun hn_ => (Kd.qH (g := gb360) (o := .cells #[.bool a1_0, .slice A1_1 l1_1.length c1_1] 121 (0, 0)) (zk BK360) k_ hn_)), Or.elim hk_ (fun hs_ => ((Kd.zB (Kd.zB (Kd.zB (Kd.zB (HO_366001.out) BK359.out (by decide)) BK360.out (by decide)) BK361.out (by decide)) BK365.out (by decide)).1 k_ hs_.symm).1.2) (fun hn_ => (Kd.qH (g := gb361) (o := .cells #[.bool false, .slice none 0 0] 121 (0, 0)) (zk BK361) k_ hn_)), Or.elim hk_ (fun hs_ => ((Kd.zB (Kd.zB (Kd.zB (Kd.zB (HO_366001.out) BK359.out (by decide)) BK360.out (by decide)) BK361.out (by decide)) BK365.out (by decide)).1 k_ hs_.symm).2) (fun hn_ => (Kd.qH (g := gb365) (o := .cells #[.bool (!(a0_0 == a1_0)), .slice Ao82 x366001_2.length co82] 121 (0, 0)) (zk BK365) k_ hn_))⟩)) (zy (zb w))); replace HO_366001 := rb HO_366001 hb; replace BK359 := bb BK359 hb; replace BK360 := bb BK360 hb; replace BK361 := bb BK361 hb; replace BK365 := bb BK365 hb; replace HB := hs w hb; (try clear hb); (try clear ho0); have hnb84 := NB361_359.out; have hnc84 := NB359_361.out; have hnb85 := NB361_360.out; have hnc85 := NB360_361.out; obtain ⟨hcz86_0, hcz86_1, hfz86_0, hfz86_1⟩ := cz2 BK361; obtain ⟨Ao87, co87, eo87⟩ := Kd.jW HO383.out; subst eo87))
         refine bodyPost_ret (results_cell_row rfl _ _ gb361 121 #[.bool t380, .slice Ao87 t381.length co87] (0, 0) _ rfl (by (with_reducible repeat (first | refine zJ ?_ _ | refine zK ?_ | refine zZ ?_ _)); refine zL (cs := #[.bool t380, .slice none 0 0]) ?_ 1 _ rfl; (with_reducible repeat (first | refine zJ ?_ _ | refine zK ?_ | refine zZ ?_ _)); refine zL (cs := #[.bool false, .slice none 0 0]) ?_ 0 _ rfl; exact zk BK361) Tryz.underlying121 rfl (by kernel_rfl)) rfl ?_
         exact ⟨_, by first | rfl | (simp [zq, zY] <;> rfl) | (simp only [← hji3]; first | rfl | (simp [zq, zY] <;> rfl)) | (simp [*, zq, zY] <;> rfl), by (with_reducible repeat (first | apply Kd.V_alloc | apply Kd.V_drewN | apply Kd.zT)); exact Kd.zR (Kd.qL (p := ⟨gb361, 1, none⟩) (Kd.qL (p := ⟨gb361, 0, none⟩) (Kd.zR HO383.out (fun k_ hk => (⟨hk, hk.2.2.2.1⟩ : _ ∧ k_ ≠ gb361))) (fun _ hk => hk.2) (.bool t380)) (fun _ hk => hk.2) (.slice Ao87 t381.length co87)) (fun _ hk => hk.1.1), (zb w)⟩
  ·rw [if_neg c5] at H
   exact absurd H (by simp)
 ·rw [if_neg c4] at H
  exact absurd H (by simp)
def qj.l0 : Nat → Int → Bool → List Int → Option (Bool × List Int)
 | 0, _, _, _ => none
 | k + 1, x0, x386000, x386001 => if x0 = 0 then (some (x386000, x386001)) else (if x386001.length < 17592186044416 then (qj.l0 k (wrap64 (Int.tdiv x0 1000000)) x386000 (x386001 ++ [mx (Int.tmod x0 1000000) (wrap64 (-(Int.tmod x0 1000000)))])) else (none))
def qj.f (k : Nat) (a0 : Int) : Option (Bool × List Int) := qj.l0 k a0 (decide (a0 < 0)) ([] : List Int)
theorem qj.calls (k : Nat) (a0 : Int) (r1 : Bool) (r2 : List Int) (w : World) (h : qj.f k a0 = some (r1, r2)) :
  Calls Tryz.prog 104 #[.int .i64 a0] w fun e w' => ∃ v1_ : Value, e = .returned (.agg #[.bool r1, v1_]) ∧ Kd.R (Kd.int .i64) 3 w' w.heap.size (fun _ => True) v1_ r2 ∧ Below w.heap.size w w' := by
 have hu121 := Tryz.underlying121
 have HB := zQ.mk (Below.refl w.heap.size w)
 have H := h
 unfold qj.f at H
 clear h
 have H' := zQ.mk H
 clear H
 go_enter Tryz.func104, Tryz.ntmps104
 go_wp2_with (first | ((with_reducible refine gD 2 rfl ?_); refine bx w 2 #[.bool false, .slice none 0 0] 121 ?_; intro gb384 hg w2 hb BK384 GW384 GE384; clear HB; intro HB; clear hb hg) | ((with_reducible refine gD 3 rfl ?_); refine bx w 3 #[.bool false, .slice none 0 0] 121 ?_; intro gb385 hg w3 hb BK385 GW385 GE385; clear HB; intro HB; have NB384_385 := nbl BK384 hg; have NB385_384 := nbr BK384 hg; replace BK384 := bb BK384 hb; clear hb hg; have hnb4 := NB385_384.out; have hnc4 := NB384_385.out; obtain ⟨hcz5_0, hcz5_1, hfz5_0, hfz5_1⟩ := cz2 BK385))
 try simp only [sq]
 go_loopg [0] k (fun kq v0 w' => ∃ (x0_1 : Int) (x386001_1 : List Int) (u386001 : Value), v0 = .int .i64 x0_1 ∧ zQ (qj.l0 kq x0_1 (decide (a0 < 0)) x386001_1 = some (r1, r2)) ∧ zQ (kq ≤ k) ∧ zQ (Kd.R (Kd.int .i64) 3 w' w.heap.size (fun _ => True) u386001 x386001_1) ∧ zQ (w'.heap[gb384]? = some (.cells #[.bool false, (.slice none 0 0)] 121 (0, 0))) ∧ zQ (w'.heap[gb385]? = some (.cells #[.bool (decide (a0 < 0)), u386001] 121 (0, 0))) ∧ zQ (Below w.heap.size w w'))
 case atStart => exact ⟨(a0), (([] : List Int)), (.slice none 0 0), ar, H', ⟨Nat.le_refl _⟩, ⟨by first | exact Kd.kN _ _ _ _ _ | exact Kd.N_nil _ _ _ _ _ | exact Kd.qKb _ _ _ _ _ | exact Kd.Q_nil _ _ _ _ _ | exact Kd.S_nil _ _ _ _ _⟩, ⟨by (with_reducible repeat (first | refine zJ ?_ _ | refine zK ?_ | refine zZ ?_ _)); refine zF ?_ NB384_385.out _; (with_reducible repeat (first | refine zJ ?_ _ | refine zK ?_ | refine zZ ?_ _)); refine zF ?_ NB384_385.out _; exact zk BK384⟩, ⟨by (with_reducible repeat (first | refine zJ ?_ _ | refine zK ?_ | refine zZ ?_ _)); refine zL (cs := #[.bool (decide (a0 < 0)), .slice none 0 0]) ?_ 1 _ rfl; (with_reducible repeat (first | refine zJ ?_ _ | refine zK ?_ | refine zZ ?_ _)); refine zL (cs := #[.bool false, .slice none 0 0]) ?_ 0 _ rfl; exact zk BK385⟩, ⟨(zb w)⟩⟩
 case round =>
  clear H'
  try clear c1
  try clear p2
  try clear c4
  try clear hcz5_0 hcz5_1 hfz5_0 hfz5_1
  obtain ⟨x0_1, x386001_1, u386001, rfl, HA, HK1, HO_386001, BK384, BK385, HB⟩ := hrel
  cases gk with
  | zero => exact absurd HA.out (by simp [qj.l0])
  | succ k1 =>
   have H := HA.out
   clear HA
   simp only [qj.l0] at H
   by_cases c6 : x0_1 = 0
   ·rw [if_pos c6] at H
    have c6b0 : (x0_1 == 0) = true := beq_iff_eq.mpr c6
    have c6b1 : (x0_1 != 0) = false := bne_eq_false_iff_eq.mpr c6
    clear c6
    simp only [Option.some.injEq, Prod.mk.injEq] at H
    obtain ⟨rfl, rfl⟩ := H
    have hnb7 := NB385_384.out
    have hnc7 := NB384_385.out
    obtain ⟨hcz8_0, hcz8_1, hfz8_0, hfz8_1⟩ := cz2 BK385
    obtain ⟨hcz9_0, hcz9_1, hfz9_0, hfz9_1⟩ := cz2 BK384
    obtain ⟨Ao10, co10, eo10⟩ := Kd.xx HO_386001.out
    subst eo10
    go_wp2
    refine bodyPost_ret (results_cell_row rfl _ _ gb384 121 #[.bool (decide (a0 < 0)), .slice Ao10 x386001_1.length co10] (0, 0) _ rfl (by (with_reducible repeat (first | refine zJ ?_ _ | refine zK ?_ | refine zZ ?_ _)); refine zL (cs := #[.bool (decide (a0 < 0)), .slice none 0 0]) ?_ 1 _ rfl; (with_reducible repeat (first | refine zJ ?_ _ | refine zK ?_ | refine zZ ?_ _)); refine zL (cs := #[.bool false, .slice none 0 0]) ?_ 0 _ rfl; exact zk BK384) Tryz.underlying121 rfl (by kernel_rfl)) rfl ?_
    exact ⟨_, by first | rfl | (simp [zq, zY] <;> rfl) | (simp [*, zq, zY] <;> rfl), by (with_reducible repeat (first | apply Kd.xU | apply Kd.xS | apply Kd.xw)); exact Kd.vw (Kd.zZd (p := ⟨gb384, 1, none⟩) (Kd.zZd (p := ⟨gb384, 0, none⟩) (Kd.zB HO_386001.out BK384.out (by decide)) (fun _ hk => hk.2) (.bool (decide (a0 < 0)))) (fun _ hk => hk.2) (.slice Ao10 x386001_1.length co10)) (fun _ hk => trivial), (zb w)⟩
   ·rw [if_neg c6] at H
    have c6b0 : (x0_1 == 0) = false := beq_eq_false_iff_ne.mpr c6
    have c6b1 : (x0_1 != 0) = true := bne_iff_ne.mpr c6
    obtain ⟨ji11, hji11⟩ : ∃ j_ : Int, (mx (Int.tmod x0_1 1000000) (wrap64 (-(Int.tmod x0_1 1000000)))) = j_ := ⟨_, rfl⟩
    replace H : (if x386001_1.length < 17592186044416 then (qj.l0 k1 (wrap64 (Int.tdiv x0_1 1000000)) (decide (a0 < 0)) (x386001_1 ++ [ji11])) else (none)) = some (r1, r2) := by first | (rw [hji11] at H; exact H) | (simp only [hji11] at H ⊢; exact H)
    have hji11_ : (if (Int.tmod x0_1 1000000) < (wrap64 (-(Int.tmod x0_1 1000000))) then (wrap64 (-(Int.tmod x0_1 1000000))) else (Int.tmod x0_1 1000000)) = ji11 := hji11
    by_cases c12 : x386001_1.length < 17592186044416
    ·rw [if_pos c12] at H
     have LMc12 := zQ.mk c12
     clear c12
     obtain ⟨y386, hy386⟩ : ∃ y_ : List Int, y_ = (x386001_1 ++ [ji11]) := ⟨_, rfl⟩
     replace H : (qj.l0 k1 (wrap64 (Int.tdiv x0_1 1000000)) (decide (a0 < 0)) y386) = some (r1, r2) := by first | (rw [hy386]; with_reducible exact H) | (have H2_ := (Option.bind_some _ _).symm.trans H; rw [hy386]; with_reducible exact H2_) | (have H2_ := (Option.bind_some _ _).symm.trans H; with_reducible exact H2_) | with_reducible exact H | (rw [hy386]; exact H) | exact H
     have Ny386 := zQ.mk hy386
     clear hy386
     have H' := zQ.mk H
     clear H
     have hnb13 := NB385_384.out
     have hnc13 := NB384_385.out
     obtain ⟨hcz14_0, hcz14_1, hfz14_0, hfz14_1⟩ := cz2 BK385
     go_wp2_with (first | ((with_reducible refine jR (b := .append) (xs := #[.tmp 13, .tmp 18]) rfl ?_); at_builtin; refine Kd.vJ (Kd.int .i64) (w0 := w) w.heap.size rfl (.tmp 13) (.tmp 18) 39 3 (.int .i64 0) 8 rfl Tryz.underlying39 info3 rfl (by decide) (by omega) u386001 x386001_1 ji11 [.int .i64 ji11] (fun _ => True) (fun _ => False) rfl rfl ?aP (fun _ hk => hk.elim) ?aF ?aO ?aB ?aS ?aL ?_; (case aP => exact rfl); (case aB => exact (zb w)); (case aF => exact (fun _ _ => trivial)); (case aO => exact (zo HO_386001)); (case aS => exact (zy (zb w))); (case aL => have := LMc12.out; omega); intro v387 w15 ho hb hg hat; rw [← Ny386.out] at ho; replace BK384 := zQ.mk (qR (g := gb384) (o := .cells #[.bool false, .slice none 0 0] 121 (0, 0)) (zk BK384) hg (Kd.R_ne HO_386001.out BK384.out (by decide))); replace BK385 := zQ.mk (qR (g := gb385) (o := .cells #[.bool (decide (a0 < 0)), u386001] 121 (0, 0)) (zk BK385) hg (Kd.R_ne HO_386001.out BK385.out (by decide))); replace HB := zQ.mk (hb); have HO388 := zQ.mk (ho); clear HO_386001; clear ho hb hg hat; obtain ⟨Ao16, co16, eo16⟩ := Kd.xx HO388.out; subst eo16; obtain ⟨hcz17_0, hcz17_1, hfz17_0, hfz17_1⟩ := cz2 BK385))
     go_roundg k1
     case measure => have := HK1.out; omega
     case rel => exact ⟨(wrap64 (Int.tdiv x0_1 1000000)), (y386), (.slice Ao16 y386.length co16), ar, H', ⟨by have := HK1.out; omega⟩, ⟨by (with_reducible repeat (first | apply Kd.xU | apply Kd.xS | apply Kd.xw)); exact Kd.vw (Kd.zZd (p := ⟨gb385, 1, none⟩) (Kd.zB HO388.out BK385.out (by decide)) (fun _ hk => hk.2) (.slice Ao16 y386.length co16)) (fun _ hk => trivial)⟩, ⟨by (with_reducible repeat (first | refine zJ ?_ _ | refine zK ?_ | refine zZ ?_ _)); refine zF ?_ NB384_385.out _; exact zk BK384⟩, ⟨by (with_reducible repeat (first | refine zJ ?_ _ | refine zK ?_ | refine zZ ?_ _)); refine zL (cs := #[.bool (decide (a0 < 0)), u386001]) ?_ 1 _ rfl; exact zk BK385⟩, ⟨(zb w)⟩⟩
    ·rw [if_neg c12] at H
     exact absurd H (by simp)
def qx.l0 : Nat → Int → Int → Bool → List Int → Option (Bool × List Int)
 | 0, _, _, _, _ => none
 | k + 1, x5, x6, x395000, x395001 => if x6 < x5 then ((qj.f k 10).bind fun bt395 => ((zV.f k x395000 x395001 bt395.1 bt395.2).bind fun bt399 => (qx.l0 k x5 (wrap64 (x6 + 1)) bt399.1 bt399.2))) else (some (x395000, x395001))
def qx.f (k : Nat) (a0 : Int) : Option (Bool × List Int) := (qj.f k 1).bind fun bt390 => (qx.l0 k a0 0 bt390.1 bt390.2)
theorem qx.calls (k : Nat) (a0 : Int) (r1 : Bool) (r2 : List Int) (w : World) (h : qx.f k a0 = some (r1, r2)) :
  Calls Tryz.prog 105 #[.int .i64 a0] w fun e w' => ∃ v1_ : Value, e = .returned (.agg #[.bool r1, v1_]) ∧ Kd.V (Kd.int .i64) 3 w' w.heap.size (fun k_ => (w.heap.size ≤ k_)) v1_ r2 ∧ Below w.heap.size w w' := by
 have hu121 := Tryz.underlying121
 have HB := zQ.mk (Below.refl w.heap.size w)
 have H := h
 unfold qx.f at H
 clear h
 replace H := Option.bind_eq_some_iff.mp H
 obtain ⟨⟨t390, t391⟩, A20, H⟩ := H
 try dsimp only at H
 have A2 := zQ.mk A20
 clear A20
 have H' := zQ.mk H
 clear H
 go_enter Tryz.func105, Tryz.ntmps105
 go_wp2_with (first | ((with_reducible refine gD 2 rfl ?_); refine bx w 2 #[.bool false, .slice none 0 0] 121 ?_; intro gb389 hg w3 hb BK389 GW389 GE389; clear HB; intro HB; clear hb hg) | ((with_reducible refine gC 104 rfl ?_); refine gl_ 4 Tryz.func104 #[.int .i64 1] ?_; (with_reducible refine (qj.calls k 1 t390 t391 _ A2.out).mono ?_); rintro e w4 ⟨v392, rfl, ho0, hb⟩; refine ⟨_, rfl, ?_⟩; have HO393 := zQ.mk (Kd.vC (Kd.zQw (M := fun k_ => (w.heap.size ≤ k_)) ho0 (zy (zb w)) (fun k_ h_ => h_)) (zy (zb w))); replace BK389 := bb BK389 hb; replace HB := hs w hb; (try clear hb); (try clear ho0)) | ((with_reducible refine gD 3 rfl ?_); refine jU ?hg (N := 3) ?hd (cs := #[.bool false, .slice none 0 0]) (t := 121) ?hr ?_; (case hd => rfl); (case hg => rfl); (case hr => first | (go_simp; done) | (go_simp; rfl)); intro gb394 hg w5 hbox hb; replace HO393 := rb HO393 hb; have BK394 := zQ.mk (hbox); have GW394 := zQ.mk ((by rw [hg]; exact (zy (zb w)) : w.heap.size ≤ gb394)); have GE394 := zQ.mk ((by rw [hg]; exact (zy (zb w)) : w.heap.size ≤ gb394)); replace HB := hs w hb; have NB389_394 := nbl BK389 hg; have NB394_389 := nbr BK389 hg; replace BK389 := bb BK389 hb; clear hb hg; have hnb6 := NB394_389.out; have hnc6 := NB389_394.out; obtain ⟨hcz7_0, hcz7_1, hfz7_0, hfz7_1⟩ := cz2 BK394; obtain ⟨Ao8, co8, eo8⟩ := Kd.xx HO393.out; subst eo8))
 try simp only [sq]
 go_loopg [6] k (fun kq v6 w' => ∃ (x6_1 : Int) (x395000_1 : Bool) (x395001_1 : List Int) (u395001 : Value), v6 = .int .i64 x6_1 ∧ zQ (qx.l0 kq a0 x6_1 x395000_1 x395001_1 = some (r1, r2)) ∧ zQ (kq ≤ k) ∧ zQ (Kd.V (Kd.int .i64) 3 w' w.heap.size (fun k_ => (w.heap.size ≤ k_) ∧ k_ ≠ gb389 ∧ k_ ≠ gb394) u395001 x395001_1) ∧ zQ (w'.heap[gb389]? = some (.cells #[.bool false, (.slice none 0 0)] 121 (0, 0))) ∧ zQ (w'.heap[gb394]? = some (.cells #[.bool x395000_1, u395001] 121 (0, 0))) ∧ zQ (Below w.heap.size w w'))
 case atStart => exact ⟨(0), (t390), (t391), (.slice Ao8 t391.length co8), ar, H', ⟨Nat.le_refl _⟩, ⟨Kd.R_V (by (with_reducible repeat (first | apply Kd.xU | apply Kd.xS | apply Kd.xw)); exact Kd.vw (Kd.zZd (p := ⟨gb394, 1, none⟩) (Kd.zZd (p := ⟨gb394, 0, none⟩) (Kd.zB (Kd.zB (Kd.zB HO393.out BK389.out (by decide)) BK394.out (by decide)) BK394.out (by decide)) (fun _ hk => hk.2) (.bool t390)) (fun _ hk => hk.2) (.slice Ao8 t391.length co8)) (fun _ hk => ⟨hk.1.1.1.1, ⟨hk.1.1.2, hk.1.2⟩⟩))⟩, ⟨by (with_reducible repeat (first | refine zJ ?_ _ | refine zK ?_ | refine zZ ?_ _)); refine zF ?_ NB389_394.out _; (with_reducible repeat (first | refine zJ ?_ _ | refine zK ?_ | refine zZ ?_ _)); refine zF ?_ NB389_394.out _; exact zk BK389⟩, ⟨by (with_reducible repeat (first | refine zJ ?_ _ | refine zK ?_ | refine zZ ?_ _)); refine zL (cs := #[.bool t390, .slice none 0 0]) ?_ 1 _ rfl; (with_reducible repeat (first | refine zJ ?_ _ | refine zK ?_ | refine zZ ?_ _)); refine zL (cs := #[.bool false, .slice none 0 0]) ?_ 0 _ rfl; exact zk BK394⟩, ⟨(zb w)⟩⟩
 case round =>
  clear H'
  try clear c1
  try clear p2
  try clear c6
  try clear hcz7_0 hcz7_1 hfz7_0 hfz7_1
  obtain ⟨x6_1, x395000_1, x395001_1, u395001, rfl, HA, HK1, HO_395001, BK389, BK394, HB⟩ := hrel
  cases gk with
  | zero => exact absurd HA.out (by simp [qx.l0])
  | succ k1 =>
   have H := HA.out
   clear HA
   simp only [qx.l0] at H
   by_cases c9 : x6_1 < a0
   ·rw [if_pos c9] at H
    have c9b0 : decide (x6_1 < a0) = true := decide_eq_true c9
    clear c9
    replace H := Option.bind_eq_some_iff.mp H
    obtain ⟨⟨t395, t396⟩, A100, H⟩ := H
    try dsimp only at H
    have A10 := zQ.mk A100
    clear A100
    replace H := Option.bind_eq_some_iff.mp H
    obtain ⟨⟨t399, t400⟩, A110, H⟩ := H
    try dsimp only at H
    have A11 := zQ.mk A110
    clear A110
    have H' := zQ.mk H
    clear H
    try go_wp2
    have n0_ := zQ.mk (Kd.zT HO_395001.out)
    have n1_ := zQ.mk (zK BK389.out)
    have n2_ := zQ.mk (zK BK394.out)
    have n3_ := zQ.mk (qD HB.out)
    clear HO_395001
    clear BK389
    clear BK394
    clear HB
    have HO_395001 := n0_
    have BK389 := n1_
    have BK394 := n2_
    have HB := n3_
    clear n0_ n1_ n2_ n3_
    refine uH (n := 4) (S := fun w' => w'.cell? ⟨gb394, 0, none⟩ = some (.bool x395000_1) ∧ w'.cell? ⟨gb394, 1, none⟩ = some (u395001)) (ds := [3]) (bm 4 0) (by kernel_rfl) rfl rfl ⟨(zx BK394.out 0).trans rfl, (zx BK394.out 1).trans rfl⟩ (fun hHeld => ?_)
    generalize wr.drew = w12 at HO_395001 BK389 BK394 HB hHeld ⊢
    refine zKm (i := 0) (N := some 8) (v := ?_) (a' := ?_) (bm 4 1) rfl rfl (by kernel_rfl) (fun _ _ _ h => h) (Or.inl ⟨by rfl, ?_⟩) hHeld ?_ ?_
    rotate_left
    ·rintro w' ⟨s0, s1⟩
     go_simp
     with_reducible rfl
    rotate_left
    ·simp only [sq, jw, vL]
     rfl
    refine one_ (i := 1) (N := some 9) (bm 4 3) rfl rfl (by kernel_rfl) (by decide) (fun K hK => ?_)
    refine gs Tryz.func104 #[.int .i64 10] ?_
    with_reducible refine (qj.calls k1 10 t395 t396 _ A10.out).mono ?_
    rintro e w13 ⟨v397, rfl, ho0, hb⟩
    refine ⟨_, rfl, ?_⟩
    have n0_ := zQ.mk (Kd.zCv (by (with_reducible repeat (first | apply Kd.V_alloc | apply Kd.V_drewN | apply Kd.zT)); exact HO_395001.out) (Kd.zEc ho0) hb)
    have n1_ := zQ.mk (Kd.vC (Kd.zQw (M := fun k_ => (w.heap.size ≤ k_)) ho0 (zy (zb w)) (fun k_ h_ => h_)) (zy (zb w)))
    have n2_ := bb BK389 hb
    have n3_ := bb BK394 hb
    have n4_ := hs w hb
    clear HO_395001
    clear BK389
    clear BK394
    clear HB
    have HO_395001 := n0_
    have HO398 := n1_
    have BK389 := n2_
    have BK394 := n3_
    have HB := n4_
    clear n0_ n1_ n2_ n3_ n4_
    (try clear hb)
    (try clear hb2)
    (try clear hk)
    (try clear hi)
    (try clear ho0)
    obtain ⟨Ao14, co14, eo14⟩ := Kd.jW HO_395001.out
    (first | subst eo14 | (injection eo14 with f1_ f2_ f3_; have f4_ := f1_.symm; have f5_ := f3_.symm; clear f1_ f2_ f3_; subst f4_; subst f5_))
    obtain ⟨Ao15, co15, eo15⟩ := Kd.xx HO398.out
    (first | subst eo15 | (injection eo15 with f1_ f2_ f3_; have f4_ := f1_.symm; have f5_ := f3_.symm; clear f1_ f2_ f3_; subst f4_; subst f5_))
    refine hK.out _ _ ⟨(zx BK394.out 0).trans rfl, (zx BK394.out 1).trans rfl⟩ (fun hHeld => ?_)
    clear hK K
    refine uG (a' := ?_) ?_ ?_
    rotate_left
    ·show Act.put _ (some 9) _ = _
     simp only [sq, jw, vL]
     rfl
    refine one_ (i := 2) (N := some 10) (bm 4 7) rfl rfl (by kernel_rfl) (by decide) (fun K hK => ?_)
    refine gs Tryz.func103 #[.agg #[.bool x395000_1, .slice Ao14 x395001_1.length co14], .agg #[.bool t395, .slice Ao15 t396.length co15]] ?_
    with_reducible refine (zV.calls k1 x395000_1 _ _ x395001_1 t395 _ _ t396 t399 t400 _ ?side1 ?side2 ?side3 ?side4 A11.out).mono ?_
    (case side1 => repeat (first | exact (Kd.qC HO_395001.out).2.2 | (with_reducible refine Kd.xK ?_ _) | (with_reducible refine Kd.xW ?_ _) | (with_reducible refine Kd.vK ?_)))
    (case side2 => exact (Kd.qC HO_395001.out).2.1)
    (case side3 => repeat (first | exact (Kd.jF HO398.out).2.2 | (with_reducible refine Kd.xK ?_ _) | (with_reducible refine Kd.xW ?_ _) | (with_reducible refine Kd.vK ?_)))
    (case side4 => exact (Kd.jF HO398.out).2.1)
    rintro e w16 ⟨v401, rfl, ho0, hb⟩
    refine ⟨_, rfl, ?_⟩
    have n0_ := zQ.mk (Kd.qJ (by (with_reducible repeat (first | apply Kd.V_alloc | apply Kd.V_drewN | apply Kd.zT)); exact HO_395001.out) hb)
    have n1_ := rb HO398 hb
    have n2_ := zQ.mk (Kd.xJ (Kd.zR (ok' := fun k_ => (w.heap.size ≤ k_) ∧ some k_ ≠ (.slice Ao15 t396.length co15 : Value).ownBlock ∧ k_ ≠ gb389 ∧ k_ ≠ gb394) ho0 (fun k_ hk_ => ⟨(Nat.le_trans (zy (zb w)) hk_), (Kd.fresh' (Kd.R_lt (zo HO398)) k_ hk_), (Kd.qH (g := gb389) (o := .cells #[.bool false, .slice none 0 0] 121 (0, 0)) (zk BK389) k_ hk_), (Kd.qH (g := gb394) (o := .cells #[.bool x395000_1, .slice Ao14 x395001_1.length co14] 121 (0, 0)) (zk BK394) k_ hk_)⟩)) (zy (zb w)))
    have n3_ := bb BK389 hb
    have n4_ := bb BK394 hb
    have n5_ := hs w hb
    clear HO_395001
    clear HO398
    clear BK389
    clear BK394
    clear HB
    have HO_395001 := n0_
    have HO398 := n1_
    have HO402 := n2_
    have BK389 := n3_
    have BK394 := n4_
    have HB := n5_
    clear n0_ n1_ n2_ n3_ n4_ n5_
    (try clear hb)
    (try clear hb2)
    (try clear hk)
    (try clear hi)
    (try clear ho0)
    obtain ⟨Ao18, co18, eo18⟩ := Kd.jW HO402.out
    (first | subst eo18 | (injection eo18 with f1_ f2_ f3_; have f4_ := f1_.symm; have f5_ := f3_.symm; clear f1_ f2_ f3_; subst f4_; subst f5_))
    refine hK.out _ _ ⟨(zx BK394.out 0).trans rfl, (zx BK394.out 1).trans rfl⟩ (fun hHeld => ?_)
    clear hK K
    refine uG (a' := ?_) ?_ ?_
    rotate_left
    ·show Act.put _ (some 10) _ = _
     simp only [sq, jw, vL]
     rfl
    refine qKk (i := 3) (N := none) (bm 4 15) rfl rfl (by kernel_rfl) (by decide) (fun K hK => ?_)
    have hs17 : w16.cell? ⟨gb394, 0, none⟩ = some (.bool x395000_1) := (zx BK394.out 0).trans rfl
    have hfs17 := qX BK394.out 0
    have hns17_0 := NB389_394.out
    have hms17_0 := NB394_389.out
    have hs19 : w16.cell? ⟨gb394, 1, none⟩ = some (.slice Ao14 x395001_1.length co14) := (zx BK394.out 1).trans rfl
    have hfs19 := qX BK394.out 1
    have hns19_0 := NB389_394.out
    have hms19_0 := NB394_389.out
    refine zCg (w1 := ?_) (by rfl) rfl ?_ ?_
    rotate_left
    ·go_simp
     rfl
    refine hK.out _ _ ?_
    clear hK K
    refine zQh (by kernel_rfl) ?_
    try go_wp2
    go_roundg k1
    case measure => have := HK1.out; omega
    case rel => exact ⟨(wrap64 (x6_1 + 1)), (t399), (t400), (.slice Ao18 t400.length co18), ar, H', ⟨by have := HK1.out; omega⟩, ⟨by (with_reducible repeat (first | apply Kd.V_alloc | apply Kd.V_drewN | apply Kd.zT)); exact Kd.zR (Kd.qL (p := ⟨gb394, 1, none⟩) (Kd.qL (p := ⟨gb394, 0, none⟩) (Kd.zR HO402.out (fun k_ hk => (⟨hk, hk.2.2.2⟩ : _ ∧ k_ ≠ gb394))) (fun _ hk => hk.2) (.bool t399)) (fun _ hk => hk.2) (.slice Ao18 t400.length co18)) (fun _ hk => ⟨hk.1.1, ⟨hk.1.2.2.1, hk.1.2.2.2⟩⟩)⟩, ⟨by (with_reducible repeat (first | refine zJ ?_ _ | refine zK ?_ | refine zZ ?_ _)); refine zF ?_ NB389_394.out _; (with_reducible repeat (first | refine zJ ?_ _ | refine zK ?_ | refine zZ ?_ _)); refine zF ?_ NB389_394.out _; exact zk BK389⟩, ⟨by (with_reducible repeat (first | refine zJ ?_ _ | refine zK ?_ | refine zZ ?_ _)); refine zL (cs := #[.bool t399, .slice Ao14 x395001_1.length co14]) ?_ 1 _ rfl; (with_reducible repeat (first | refine zJ ?_ _ | refine zK ?_ | refine zZ ?_ _)); refine zL (cs := #[.bool x395000_1, .slice Ao14 x395001_1.length co14]) ?_ 0 _ rfl; exact zk BK394⟩, ⟨(zb w)⟩⟩
   ·rw [if_neg c9] at H
    have c9b0 : decide (x6_1 < a0) = false := decide_eq_false c9
    clear c9
    simp only [Option.some.injEq, Prod.mk.injEq] at H
    obtain ⟨rfl, rfl⟩ := H
    have hnb20 := NB394_389.out
    have hnc20 := NB389_394.out
    obtain ⟨hcz21_0, hcz21_1, hfz21_0, hfz21_1⟩ := cz2 BK394
    obtain ⟨hcz22_0, hcz22_1, hfz22_0, hfz22_1⟩ := cz2 BK389
    obtain ⟨Ao23, co23, eo23⟩ := Kd.jW HO_395001.out
    subst eo23
    go_wp2
    refine bodyPost_ret (results_cell_row rfl _ _ gb389 121 #[.bool x395000_1, .slice Ao23 x395001_1.length co23] (0, 0) _ rfl (by (with_reducible repeat (first | refine zJ ?_ _ | refine zK ?_ | refine zZ ?_ _)); refine zL (cs := #[.bool x395000_1, .slice none 0 0]) ?_ 1 _ rfl; (with_reducible repeat (first | refine zJ ?_ _ | refine zK ?_ | refine zZ ?_ _)); refine zL (cs := #[.bool false, .slice none 0 0]) ?_ 0 _ rfl; exact zk BK389) Tryz.underlying121 rfl (by kernel_rfl)) rfl ?_
    exact ⟨_, by first | rfl | (simp [zq, zY] <;> rfl) | (simp [*, zq, zY] <;> rfl), by (with_reducible repeat (first | apply Kd.V_alloc | apply Kd.V_drewN | apply Kd.zT)); exact Kd.zR (Kd.qL (p := ⟨gb389, 1, none⟩) (Kd.qL (p := ⟨gb389, 0, none⟩) (Kd.zR HO_395001.out (fun k_ hk => (⟨hk, hk.2.1⟩ : _ ∧ k_ ≠ gb389))) (fun _ hk => hk.2) (.bool x395000_1)) (fun _ hk => hk.2) (.slice Ao23 x395001_1.length co23)) (fun _ hk => hk.1.1), (zb w)⟩
def qE.f (k : Nat) (a0_0 : Int) (a0_1 : Int) (a1 : Int) : Option (Bool × List Int) := (qj.f k a0_0).bind fun bt405 => ((qx.f k (wrap64 (a1 - a0_1))).bind fun bt409 => ((zV.f k bt405.1 bt405.2 bt409.1 bt409.2).bind fun bt413 => (some (bt413.1, bt413.2))))
def qE.T1 : Bool × List (List Nat × List Nat) := (true, [([], []), ([0], [0]), ([1], [1]), ([], []), ([], []), ([4], [4]), ([3, 5], [3, 5]), ([6, 2], [6]), ([2, 7, 7], [2, 7]), ([8, 8, 0, 1, 2, 3, 4, 5, 6, 7, 8], [8])])
def qE.B1 : List Nat := [0, 1, 3, 0, 0, 16, 56, 127, 255, 511]
theorem qE.tab1 : rtab .any (opsOf Tryz.f87 1) = qE.T1 := by kernel_rfl
theorem qE.bits1 : yB qE.T1.2 qE.B1 = true := by kernel_rfl
theorem qE.calls (k : Nat) (a0_0 : Int) (a0_1 : Int) (a1 : Int) (r1 : Bool) (r2 : List Int) (w : World) (h : qE.f k a0_0 a0_1 a1 = some (r1, r2)) :
  Calls Tryz.prog 87 #[.agg #[.int .i64 a0_0, .int .i64 a0_1], .int .i64 a1] w fun e w' => ∃ v1_ : Value, e = .returned (.agg #[.bool r1, v1_]) ∧ Kd.V (Kd.int .i64) 3 w' w.heap.size (fun k_ => (w.heap.size ≤ k_)) v1_ r2 ∧ Below w.heap.size w w' := by
 have hu33 := Tryz.underlying33
 have hu121 := Tryz.underlying121
 have HB := zQ.mk (Below.refl w.heap.size w)
 have H := h
 unfold qE.f at H
 clear h
 replace H := Option.bind_eq_some_iff.mp H
 obtain ⟨⟨t405, t406⟩, A30, H⟩ := H
 try dsimp only at H
 have A3 := zQ.mk A30
 clear A30
 replace H := Option.bind_eq_some_iff.mp H
 obtain ⟨⟨t409, t410⟩, A40, H⟩ := H
 try dsimp only at H
 have A4 := zQ.mk A40
 clear A40
 replace H := Option.bind_eq_some_iff.mp H
 obtain ⟨⟨t413, t414⟩, A50, H⟩ := H
 try dsimp only at H
 have A5 := zQ.mk A50
 clear A50
 simp only [Option.some.injEq, Prod.mk.injEq] at H
 obtain ⟨rfl, rfl⟩ := H
 go_enter Tryz.func87, Tryz.ntmps87
 try go_wp2_with (first | ((with_reducible refine gD 2 rfl ?_); refine bx w 2 #[.int .i64 a0_0, .int .i64 a0_1] 33 ?_; intro gb403 hg w6 hb BK403 GW403 GE403; clear HB; intro HB; clear hb hg) | ((with_reducible refine gD 4 rfl ?_); refine bx w 4 #[.bool false, .slice none 0 0] 121 ?_; intro gb404 hg w7 hb BK404 GW404 GE404; clear HB; intro HB; have NB403_404 := nbl BK403 hg; have NB404_403 := nbr BK403 hg; replace BK403 := bb BK403 hb; clear hb hg))
 have n0_ := zQ.mk (zK BK403.out)
 have n1_ := zQ.mk (zK BK404.out)
 have n2_ := zQ.mk (qD HB.out)
 clear BK403
 clear BK404
 clear HB
 have BK403 := n0_
 have BK404 := n1_
 have HB := n2_
 clear n0_ n1_ n2_
 refine uH (n := 10) (S := fun w' => w'.cell? ⟨gb403, 0, none⟩ = some (.int .i64 a0_0) ∧ w'.cell? ⟨gb403, 1, none⟩ = some (.int .i64 a0_1)) (ds := []) (bm 10 0) (by kernel_rfl) rfl rfl ⟨(zx BK403.out 0).trans rfl, (zx BK403.out 1).trans rfl⟩ (fun hHeld => ?_); refine vF qE.tab1 qE.bits1 (fun HT_ HW_ => ?_)
 generalize w7.drew = w8 at BK403 BK404 HB hHeld ⊢
 refine pu 0 5 (bm 10 1) HT_ ?_
 refine pu 3 8 (bm 10 9) HT_ ?_
 refine pu 4 9 (bm 10 25) HT_ ?_
 refine ta2 1 6 (bm 10 27) HT_ HW_ hHeld ?_
 refine ta2 5 10 (bm 10 59) HT_ HW_ hHeld ?_
 refine pu 6 11 (bm 10 123) HT_ ?_
 refine one_ (i := 2) (N := some 7) (bm 10 127) rfl rfl (yN HT_.out (by kernel_rfl)) (by decide) (fun K hK => ?_)
 refine gs Tryz.func104 #[.int .i64 a0_0] ?_
 with_reducible refine (qj.calls k a0_0 t405 t406 _ A3.out).mono ?_
 rintro e w9 ⟨v407, rfl, ho0, hb⟩
 refine ⟨_, rfl, ?_⟩
 have n0_ := zQ.mk (Kd.vC (Kd.zQw (M := fun k_ => (w.heap.size ≤ k_)) ho0 (zy (zb w)) (fun k_ h_ => h_)) (zy (zb w)))
 have n1_ := bb BK403 hb
 have n2_ := bb BK404 hb
 have n3_ := hs w hb
 clear BK403
 clear BK404
 clear HB
 have HO408 := n0_
 have BK403 := n1_
 have BK404 := n2_
 have HB := n3_
 clear n0_ n1_ n2_ n3_
 (try clear hb)
 (try clear hb2)
 (try clear hk)
 (try clear hi)
 (try clear ho0)
 refine hK.out _ _ ⟨(zx BK403.out 0).trans rfl, (zx BK403.out 1).trans rfl⟩ (fun hHeld => ?_)
 clear hK K
 refine uG (a' := ?_) ?_ ?_
 rotate_left
 ·show Act.put _ (some 7) _ = _
  simp only [sq, jw, vL]
  rfl
 refine one_ (i := 7) (N := some 12) (bm 10 255) rfl rfl (yN HT_.out (by kernel_rfl)) (by decide) (fun K hK => ?_)
 refine gs Tryz.func105 #[.int .i64 (wrap64 (a1 - a0_1))] ?_
 with_reducible refine (qx.calls k (wrap64 (a1 - a0_1)) t409 t410 _ A4.out).mono ?_
 rintro e w10 ⟨v411, rfl, ho0, hb⟩
 refine ⟨_, rfl, ?_⟩
 have n0_ := rb HO408 hb
 have n1_ := zQ.mk (Kd.xJ (Kd.zR (ok' := fun k_ => (w.heap.size ≤ k_) ∧ some k_ ≠ (v407 : Value).ownBlock ∧ k_ ≠ gb403 ∧ k_ ≠ gb404) ho0 (fun k_ hk_ => ⟨(Nat.le_trans (zy (zb w)) hk_), (Kd.fresh' (Kd.R_lt (zo HO408)) k_ hk_), (Kd.qH (g := gb403) (o := .cells #[.int .i64 a0_0, .int .i64 a0_1] 33 (0, 0)) (zk BK403) k_ hk_), (Kd.qH (g := gb404) (o := .cells #[.bool false, .slice none 0 0] 121 (0, 0)) (zk BK404) k_ hk_)⟩)) (zy (zb w)))
 have n2_ := bb BK403 hb
 have n3_ := bb BK404 hb
 have n4_ := hs w hb
 clear HO408
 clear BK403
 clear BK404
 clear HB
 have HO408 := n0_
 have HO412 := n1_
 have BK403 := n2_
 have BK404 := n3_
 have HB := n4_
 clear n0_ n1_ n2_ n3_ n4_
 (try clear hb)
 (try clear hb2)
 (try clear hk)
 (try clear hi)
 (try clear ho0)
 obtain ⟨Ao11, co11, eo11⟩ := Kd.xx HO408.out
 (first | subst eo11 | (injection eo11 with f1_ f2_ f3_; have f4_ := f1_.symm; have f5_ := f3_.symm; clear f1_ f2_ f3_; subst f4_; subst f5_))
 obtain ⟨Ao12, co12, eo12⟩ := Kd.jW HO412.out
 (first | subst eo12 | (injection eo12 with f1_ f2_ f3_; have f4_ := f1_.symm; have f5_ := f3_.symm; clear f1_ f2_ f3_; subst f4_; subst f5_))
 refine hK.out _ _ ⟨(zx BK403.out 0).trans rfl, (zx BK403.out 1).trans rfl⟩ (fun hHeld => ?_)
 clear hK K
 refine uG (a' := ?_) ?_ ?_
 rotate_left
 ·show Act.put _ (some 12) _ = _
  simp only [sq, jw, vL]
  rfl
 refine one_ (i := 8) (N := some 13) (bm 10 511) rfl rfl (yN HT_.out (by kernel_rfl)) (by decide) (fun K hK => ?_)
 refine gs Tryz.func103 #[.agg #[.bool t405, .slice Ao11 t406.length co11], .agg #[.bool t409, .slice Ao12 t410.length co12]] ?_
 with_reducible refine (zV.calls k t405 _ _ t406 t409 _ _ t410 t413 t414 _ ?side1 ?side2 ?side3 ?side4 A5.out).mono ?_
 (case side1 => repeat (first | exact (Kd.jF HO408.out).2.2 | (with_reducible refine Kd.xK ?_ _) | (with_reducible refine Kd.xW ?_ _) | (with_reducible refine Kd.vK ?_)))
 (case side2 => exact (Kd.jF HO408.out).2.1)
 (case side3 => repeat (first | exact (Kd.qC HO412.out).2.2 | (with_reducible refine Kd.xK ?_ _) | (with_reducible refine Kd.xW ?_ _) | (with_reducible refine Kd.vK ?_)))
 (case side4 => exact (Kd.qC HO412.out).2.1)
 rintro e w13 ⟨v415, rfl, ho0, hb⟩
 refine ⟨_, rfl, ?_⟩
 have n0_ := rb HO408 hb
 have n1_ := zQ.mk (Kd.qJ (by (with_reducible repeat (first | apply Kd.V_alloc | apply Kd.V_drewN | apply Kd.zT)); exact HO412.out) hb)
 have n2_ := zQ.mk (Kd.xJ (Kd.zR (ok' := fun k_ => (w.heap.size ≤ k_) ∧ some k_ ≠ (.slice Ao11 t406.length co11 : Value).ownBlock ∧ k_ ≠ gb403 ∧ k_ ≠ gb404) ho0 (fun k_ hk_ => ⟨(Nat.le_trans (zy (zb w)) hk_), (Kd.fresh' (Kd.R_lt (zo HO408)) k_ hk_), (Kd.qH (g := gb403) (o := .cells #[.int .i64 a0_0, .int .i64 a0_1] 33 (0, 0)) (zk BK403) k_ hk_), (Kd.qH (g := gb404) (o := .cells #[.bool false, .slice none 0 0] 121 (0, 0)) (zk BK404) k_ hk_)⟩)) (zy (zb w)))
 have n3_ := bb BK403 hb
 have n4_ := bb BK404 hb
 have n5_ := hs w hb
 clear HO408
 clear HO412
 clear BK403
 clear BK404
 clear HB
 have HO408 := n0_
 have HO412 := n1_
 have HO416 := n2_
 have BK403 := n3_
 have BK404 := n4_
 have HB := n5_
 clear n0_ n1_ n2_ n3_ n4_ n5_
 (try clear hb)
 (try clear hb2)
 (try clear hk)
 (try clear hi)
 (try clear ho0)
 obtain ⟨Ao15, co15, eo15⟩ := Kd.jW HO416.out
 (first | subst eo15 | (injection eo15 with f1_ f2_ f3_; have f4_ := f1_.symm; have f5_ := f3_.symm; clear f1_ f2_ f3_; subst f4_; subst f5_))
 refine hK.out _ _ ⟨(zx BK403.out 0).trans rfl, (zx BK403.out 1).trans rfl⟩ (fun hHeld => ?_)
 clear hK K
 refine uG (a' := ?_) ?_ ?_
 rotate_left
 ·show Act.put _ (some 13) _ = _
  simp only [sq, jw, vL]
  rfl
 refine one_ (i := 9) (N := none) (bm 10 1023) rfl rfl (yN HT_.out (by kernel_rfl)) (by decide) (fun K hK => ?_)
 have hs14 : w13.cell? ⟨gb404, 0, none⟩ = some (.bool false) := (zx BK404.out 0).trans rfl
 have hfs14 := qX BK404.out 0
 have hns14_0 := NB403_404.out
 have hms14_0 := NB404_403.out
 have hs16 : w13.cell? ⟨gb404, 1, none⟩ = some (.slice none 0 0) := (zx BK404.out 1).trans rfl
 have hfs16 := qX BK404.out 1
 have hns16_0 := NB403_404.out
 have hms16_0 := NB404_403.out
 refine zCg (w1 := ?_) (by rfl) rfl ?_ ?_
 rotate_left
 ·go_simp
  rfl
 refine hK.out _ _ ⟨((cell_far (p := ⟨gb404, _, none⟩) NB403_404.out _).trans (((cell_far (p := ⟨gb404, _, none⟩) NB403_404.out _).trans (hHeld.1)))), ((cell_far (p := ⟨gb404, _, none⟩) NB403_404.out _).trans (((cell_far (p := ⟨gb404, _, none⟩) NB403_404.out _).trans (hHeld.2))))⟩ (fun hHeld => ?_)
 clear hK K
 refine zQh (uq HT_.out (by kernel_rfl)) ?_
 try go_wp2
 refine bodyPost_ret (results_cell_row rfl _ _ gb404 121 #[.bool t413, .slice Ao15 t414.length co15] (0, 0) _ rfl (by (with_reducible repeat (first | refine zJ ?_ _ | refine zK ?_ | refine zZ ?_ _)); refine zL (cs := #[.bool t413, .slice none 0 0]) ?_ 1 _ rfl; (with_reducible repeat (first | refine zJ ?_ _ | refine zK ?_ | refine zZ ?_ _)); refine zL (cs := #[.bool false, .slice none 0 0]) ?_ 0 _ rfl; exact zk BK404) Tryz.underlying121 rfl (by kernel_rfl)) rfl ?_
 exact ⟨_, by first | rfl | (simp [zq, zY] <;> rfl) | (simp [*, zq, zY] <;> rfl), by (with_reducible repeat (first | apply Kd.V_alloc | apply Kd.V_drewN | apply Kd.zT)); exact Kd.zR (Kd.qL (p := ⟨gb404, 1, none⟩) (Kd.qL (p := ⟨gb404, 0, none⟩) (Kd.zR HO416.out (fun k_ hk => (⟨hk, hk.2.2.2⟩ : _ ∧ k_ ≠ gb404))) (fun _ hk => hk.2) (.bool t413)) (fun _ hk => hk.2) (.slice Ao15 t414.length co15)) (fun _ hk => hk.1.1), (zb w)⟩
def jQ.f (k : Nat) (a0_0 : Int) (a0_1 : Int) (a1_0 : Int) (a1_1 : Int) : Option (Int) := (qE.f k a0_0 a0_1 9).bind fun bt419 => ((qE.f k a1_0 a1_1 9).bind fun bt423 => ((xz.f k bt419.1 bt419.2 bt423.1 bt423.2).bind fun t427 => (some t427)))
theorem jQ.calls (k : Nat) (a0_0 : Int) (a0_1 : Int) (a1_0 : Int) (a1_1 : Int) (r : Int) (w : World) (h : jQ.f k a0_0 a0_1 a1_0 a1_1 = some r) :
  Calls Tryz.prog 70 #[.agg #[.int .i64 a0_0, .int .i64 a0_1], .agg #[.int .i64 a1_0, .int .i64 a1_1]] w fun e w' => e = .returned (.int .i64 r) ∧ Below w.heap.size w w' := by
 have hu33 := Tryz.underlying33
 have HB := zQ.mk (Below.refl w.heap.size w)
 have H := h
 unfold jQ.f at H
 clear h
 replace H := Option.bind_eq_some_iff.mp H
 obtain ⟨⟨t419, t420⟩, A30, H⟩ := H
 try dsimp only at H
 have A3 := zQ.mk A30
 clear A30
 replace H := Option.bind_eq_some_iff.mp H
 obtain ⟨⟨t423, t424⟩, A40, H⟩ := H
 try dsimp only at H
 have A4 := zQ.mk A40
 clear A40
 replace H := Option.bind_eq_some_iff.mp H
 obtain ⟨t427, A50, H⟩ := H
 try dsimp only at H
 have A5 := zQ.mk A50
 clear A50
 obtain rfl := Option.some.inj H
 go_enter Tryz.func70, Tryz.ntmps70
 try go_wp2_with (first | ((with_reducible refine gD 2 rfl ?_); refine bx w 2 #[.int .i64 a0_0, .int .i64 a0_1] 33 ?_; intro gb417 hg w6 hb BK417 GW417 GE417; clear HB; intro HB; clear hb hg) | ((with_reducible refine gD 3 rfl ?_); refine bx w 3 #[.int .i64 a1_0, .int .i64 a1_1] 33 ?_; intro gb418 hg w7 hb BK418 GW418 GE418; clear HB; intro HB; have NB417_418 := nbl BK417 hg; have NB418_417 := nbr BK417 hg; replace BK417 := bb BK417 hb; clear hb hg))
 have n0_ := zQ.mk (zK BK417.out)
 have n1_ := zQ.mk (zK BK418.out)
 have n2_ := zQ.mk (qD HB.out)
 clear BK417
 clear BK418
 clear HB
 have BK417 := n0_
 have BK418 := n1_
 have HB := n2_
 clear n0_ n1_ n2_
 refine uH (n := 6) (S := fun w' => w'.cell? ⟨gb417, 0, none⟩ = some (.int .i64 a0_0) ∧ w'.cell? ⟨gb417, 1, none⟩ = some (.int .i64 a0_1) ∧ w'.cell? ⟨gb418, 0, none⟩ = some (.int .i64 a1_0) ∧ w'.cell? ⟨gb418, 1, none⟩ = some (.int .i64 a1_1)) (ds := []) (bm 6 0) (by kernel_rfl) rfl rfl ⟨(zx BK417.out 0).trans rfl, (zx BK417.out 1).trans rfl, (zx BK418.out 0).trans rfl, (zx BK418.out 1).trans rfl⟩ (fun hHeld => ?_)
 generalize w7.drew = w8 at BK417 BK418 HB hHeld ⊢
 refine zKm (i := 0) (N := some 5) (v := ?_) (a' := ?_) (bm 6 1) rfl rfl (by kernel_rfl) (fun _ _ _ h => h) (Or.inl ⟨by rfl, ?_⟩) hHeld ?_ ?_
 rotate_left
 ·rintro w' ⟨s0, s1, s2, s3⟩
  go_simp
  with_reducible rfl
 rotate_left
 ·simp only [sq, jw, vL]
  rfl
 refine zKm (i := 2) (N := some 7) (v := ?_) (a' := ?_) (bm 6 5) rfl rfl (by kernel_rfl) (fun _ _ _ h => h) (Or.inl ⟨by rfl, ?_⟩) hHeld ?_ ?_
 rotate_left
 ·rintro w' ⟨s0, s1, s2, s3⟩
  go_simp
  with_reducible rfl
 rotate_left
 ·simp only [sq, jw, vL]
  rfl
 refine one_ (i := 1) (N := some 6) (bm 6 7) rfl rfl (by kernel_rfl) (by decide) (fun K hK => ?_)
 refine gs Tryz.func87 #[.agg #[.int .i64 a0_0, .int .i64 a0_1], .int .i64 9] ?_
 with_reducible refine (qE.calls k a0_0 a0_1 9 t419 t420 _ A3.out).mono ?_
 rintro e w9 ⟨v421, rfl, ho0, hb⟩
 refine ⟨_, rfl, ?_⟩
 have n0_ := zQ.mk (Kd.xJ (Kd.zR (ok' := fun k_ => k_ ≠ gb417 ∧ k_ ≠ gb418) ho0 (fun k_ hk_ => ⟨(Kd.qH (g := gb417) (o := .cells #[.int .i64 a0_0, .int .i64 a0_1] 33 (0, 0)) (zk BK417) k_ hk_), (Kd.qH (g := gb418) (o := .cells #[.int .i64 a1_0, .int .i64 a1_1] 33 (0, 0)) (zk BK418) k_ hk_)⟩)) (zy (zb w)))
 have n1_ := bb BK417 hb
 have n2_ := bb BK418 hb
 have n3_ := hs w hb
 clear BK417
 clear BK418
 clear HB
 have HO422 := n0_
 have BK417 := n1_
 have BK418 := n2_
 have HB := n3_
 clear n0_ n1_ n2_ n3_
 (try clear hb)
 (try clear hb2)
 (try clear hk)
 (try clear hi)
 (try clear ho0)
 refine hK.out _ _ ⟨(zx BK417.out 0).trans rfl, (zx BK417.out 1).trans rfl, (zx BK418.out 0).trans rfl, (zx BK418.out 1).trans rfl⟩ (fun hHeld => ?_)
 clear hK K
 refine uG (a' := ?_) ?_ ?_
 rotate_left
 ·show Act.put _ (some 6) _ = _
  simp only [sq, jw, vL]
  rfl
 refine one_ (i := 3) (N := some 8) (bm 6 15) rfl rfl (by kernel_rfl) (by decide) (fun K hK => ?_)
 refine gs Tryz.func87 #[.agg #[.int .i64 a1_0, .int .i64 a1_1], .int .i64 9] ?_
 with_reducible refine (qE.calls k a1_0 a1_1 9 t423 t424 _ A4.out).mono ?_
 rintro e w10 ⟨v425, rfl, ho0, hb⟩
 refine ⟨_, rfl, ?_⟩
 have n0_ := zQ.mk (Kd.qJ (by (with_reducible repeat (first | apply Kd.V_alloc | apply Kd.V_drewN | apply Kd.zT)); exact HO422.out) hb)
 have n1_ := zQ.mk (Kd.xJ (Kd.zR (ok' := fun k_ => k_ ≠ gb417 ∧ k_ ≠ gb418) ho0 (fun k_ hk_ => ⟨(Kd.qH (g := gb417) (o := .cells #[.int .i64 a0_0, .int .i64 a0_1] 33 (0, 0)) (zk BK417) k_ hk_), (Kd.qH (g := gb418) (o := .cells #[.int .i64 a1_0, .int .i64 a1_1] 33 (0, 0)) (zk BK418) k_ hk_)⟩)) (zy (zb w)))
 have n2_ := bb BK417 hb
 have n3_ := bb BK418 hb
 have n4_ := hs w hb
 clear HO422
 clear BK417
 clear BK418
 clear HB
 have HO422 := n0_
 have HO426 := n1_
 have BK417 := n2_
 have BK418 := n3_
 have HB := n4_
 clear n0_ n1_ n2_ n3_ n4_
 (try clear hb)
 (try clear hb2)
 (try clear hk)
 (try clear hi)
 (try clear ho0)
 obtain ⟨Ao11, co11, eo11⟩ := Kd.jW HO422.out
 (first | subst eo11 | (injection eo11 with f1_ f2_ f3_; have f4_ := f1_.symm; have f5_ := f3_.symm; clear f1_ f2_ f3_; subst f4_; subst f5_))
 obtain ⟨Ao12, co12, eo12⟩ := Kd.jW HO426.out
 (first | subst eo12 | (injection eo12 with f1_ f2_ f3_; have f4_ := f1_.symm; have f5_ := f3_.symm; clear f1_ f2_ f3_; subst f4_; subst f5_))
 refine hK.out _ _ ⟨(zx BK417.out 0).trans rfl, (zx BK417.out 1).trans rfl, (zx BK418.out 0).trans rfl, (zx BK418.out 1).trans rfl⟩ (fun hHeld => ?_)
 clear hK K
 refine uG (a' := ?_) ?_ ?_
 rotate_left
 ·show Act.put _ (some 8) _ = _
  simp only [sq, jw, vL]
  rfl
 refine one_ (i := 4) (N := some 9) (bm 6 31) rfl rfl (by kernel_rfl) (by decide) (fun K hK => ?_)
 refine gs Tryz.func86 #[.agg #[.bool t419, .slice Ao11 t420.length co11], .agg #[.bool t423, .slice Ao12 t424.length co12]] ?_
 with_reducible refine (xz.calls k t419 _ _ t420 t423 _ _ t424 t427 _ ?side1 ?side2 ?side3 ?side4 A5.out).mono ?_
 (case side1 => repeat (first | exact (Kd.qC HO422.out).2.2 | (with_reducible refine Kd.xK ?_ _) | (with_reducible refine Kd.xW ?_ _) | (with_reducible refine Kd.vK ?_)))
 (case side2 => exact (Kd.qC HO422.out).2.1)
 (case side3 => repeat (first | exact (Kd.qC HO426.out).2.2 | (with_reducible refine Kd.xK ?_ _) | (with_reducible refine Kd.xW ?_ _) | (with_reducible refine Kd.vK ?_)))
 (case side4 => exact (Kd.qC HO426.out).2.1)
 rintro e w13 ⟨rfl, hb⟩
 refine ⟨_, rfl, ?_⟩
 have n0_ := zQ.mk (Kd.qJ (by (with_reducible repeat (first | apply Kd.V_alloc | apply Kd.V_drewN | apply Kd.zT)); exact HO422.out) hb)
 have n1_ := zQ.mk (Kd.qJ (by (with_reducible repeat (first | apply Kd.V_alloc | apply Kd.V_drewN | apply Kd.zT)); exact HO426.out) hb)
 have n2_ := bb BK417 hb
 have n3_ := bb BK418 hb
 have n4_ := hs w hb
 clear HO422
 clear HO426
 clear BK417
 clear BK418
 clear HB
 have HO422 := n0_
 have HO426 := n1_
 have BK417 := n2_
 have BK418 := n3_
 have HB := n4_
 clear n0_ n1_ n2_ n3_ n4_
 (try clear hb)
 (try clear hb2)
 (try clear hk)
 (try clear hi)
 refine hK.out _ _ ⟨(zx BK417.out 0).trans rfl, (zx BK417.out 1).trans rfl, (zx BK418.out 0).trans rfl, (zx BK418.out 1).trans rfl⟩ (fun hHeld => ?_)
 clear hK K
 refine uG (a' := ?_) ?_ ?_
 rotate_left
 ·show Act.put _ (some 9) _ = _
  simp only [sq, jw, vL]
  rfl
 refine pure_ (i := 5) (N := some 4) (v := ?_) (a' := ?_) (bm 6 63) rfl rfl (by kernel_rfl) (fun _ _ _ h => h) (Or.inl ⟨by rfl, ?_⟩) ?_ ?_
 rotate_left
 ·intro w'
  go_simp
  with_reducible rfl
 rotate_left
 ·simp only [sq, jw, vL]
  rfl
 refine zQh (by kernel_rfl) ?_
 try go_wp2
 go_ret
 exact ⟨by first | rfl | (simp [zq, zY] <;> rfl) | (simp [*, zq, zY] <;> rfl), (zb w)⟩
def jP.f (k : Nat) (a0_0 : Int) (a0_1 : Int) (a1 : Int) (a2 : Int) (a3 : Int) : Option (Bool) := (qP.f a0_0 a0_1).bind fun t429 => (if t429 = 0 then (if a0_1 ≤ a3 then ((jQ.f k a0_0 a0_1 a1 0).bind fun t430 => (if t430 ≥ 0 then ((jQ.f k a0_0 a0_1 a2 0).bind fun t431 => (some (decide (t431 ≤ 0)))) else (some false))) else (some false)) else (some false))
theorem jP.calls (k : Nat) (a0_0 : Int) (a0_1 : Int) (a1 : Int) (a2 : Int) (a3 : Int) (r : Bool) (w : World) (h : jP.f k a0_0 a0_1 a1 a2 a3 = some r) :
  Calls Tryz.prog 52 #[.agg #[.int .i64 a0_0, .int .i64 a0_1], .int .i64 a1, .int .i64 a2, .int .i64 a3] w fun e w' => e = .returned (.bool r) ∧ Below w.heap.size w w' := by
 have hu33 := Tryz.underlying33
 have HB := zQ.mk (Below.refl w.heap.size w)
 have H := h
 unfold jP.f at H
 clear h
 replace H := Option.bind_eq_some_iff.mp H
 obtain ⟨t429, A50, H⟩ := H
 try dsimp only at H
 have A5 := zQ.mk A50
 clear A50
 by_cases c6 : t429 = 0
 ·rw [if_pos c6] at H
  have c6b0 : (t429 == 0) = true := beq_iff_eq.mpr c6
  have c6b1 : (t429 != 0) = false := bne_eq_false_iff_eq.mpr c6
  clear c6
  by_cases c7 : a0_1 ≤ a3
  ·rw [if_pos c7] at H
   have c7b0 : decide (a0_1 ≤ a3) = true := decide_eq_true c7
   clear c7
   replace H := Option.bind_eq_some_iff.mp H
   obtain ⟨t430, A80, H⟩ := H
   try dsimp only at H
   have A8 := zQ.mk A80
   clear A80
   by_cases c9 : t430 ≥ 0
   ·rw [if_pos c9] at H
    have c9b0 : decide (0 ≤ t430) = true := decide_eq_true c9
    clear c9
    replace H := Option.bind_eq_some_iff.mp H
    obtain ⟨t431, A100, H⟩ := H
    try dsimp only at H
    have A10 := zQ.mk A100
    clear A100
    obtain rfl := Option.some.inj H
    go_enter Tryz.func52, Tryz.ntmps52
    go_wp2_with (first | ((with_reducible refine gD 4 rfl ?_); refine bx w 4 #[.int .i64 a0_0, .int .i64 a0_1] 33 ?_; intro gb428 hg w11 hb BK428 GW428 GE428; clear HB; intro HB; clear hb hg; obtain ⟨hcz12_0, hcz12_1, hfz12_0, hfz12_1⟩ := cz2 BK428) | ((with_reducible refine gC 69 rfl ?_); refine gl_ 10 Tryz.func69 #[.agg #[.int .i64 a0_0, .int .i64 a0_1]] ?_; (with_reducible refine (qP.calls a0_0 a0_1 t429 _ A5.out).mono ?_); rintro e w13 ⟨rfl, hb⟩; refine ⟨_, rfl, ?_⟩; replace BK428 := bb BK428 hb; replace HB := hs w hb; (try clear hb); obtain ⟨hcz14_0, hcz14_1, hfz14_0, hfz14_1⟩ := cz2 BK428) | (go_at_call 70; (with_reducible refine (jQ.calls k a0_0 a0_1 a1 0 t430 _ A8.out).mono ?_); rintro e w15 ⟨rfl, hb⟩; replace BK428 := bb BK428 hb; replace HB := hs w hb; (try clear hb); obtain ⟨hcz16_0, hcz16_1, hfz16_0, hfz16_1⟩ := cz2 BK428) | (go_at_call 70; (with_reducible refine (jQ.calls k a0_0 a0_1 a2 0 t431 _ A10.out).mono ?_); rintro e w17 ⟨rfl, hb⟩; replace BK428 := bb BK428 hb; replace HB := hs w hb; (try clear hb)))
    go_ret
    exact ⟨by first | rfl | (simp [zq, zY] <;> rfl) | (simp [*, zq, zY] <;> rfl), (zb w)⟩
   ·rw [if_neg c9] at H
    have c9b0 : decide (0 ≤ t430) = false := decide_eq_false c9
    clear c9
    obtain rfl := Option.some.inj H
    go_enter Tryz.func52, Tryz.ntmps52
    go_wp2_with (first | ((with_reducible refine gD 4 rfl ?_); refine bx w 4 #[.int .i64 a0_0, .int .i64 a0_1] 33 ?_; intro gb428 hg w18 hb BK428 GW428 GE428; clear HB; intro HB; clear hb hg; obtain ⟨hcz19_0, hcz19_1, hfz19_0, hfz19_1⟩ := cz2 BK428) | ((with_reducible refine gC 69 rfl ?_); refine gl_ 10 Tryz.func69 #[.agg #[.int .i64 a0_0, .int .i64 a0_1]] ?_; (with_reducible refine (qP.calls a0_0 a0_1 t429 _ A5.out).mono ?_); rintro e w20 ⟨rfl, hb⟩; refine ⟨_, rfl, ?_⟩; replace BK428 := bb BK428 hb; replace HB := hs w hb; (try clear hb); obtain ⟨hcz21_0, hcz21_1, hfz21_0, hfz21_1⟩ := cz2 BK428) | (go_at_call 70; (with_reducible refine (jQ.calls k a0_0 a0_1 a1 0 t430 _ A8.out).mono ?_); rintro e w22 ⟨rfl, hb⟩; replace BK428 := bb BK428 hb; replace HB := hs w hb; (try clear hb)))
    go_ret
    exact ⟨by first | rfl | (simp [zq, zY] <;> rfl) | (simp [*, zq, zY] <;> rfl), (zb w)⟩
  ·rw [if_neg c7] at H
   have c7b0 : decide (a0_1 ≤ a3) = false := decide_eq_false c7
   clear c7
   obtain rfl := Option.some.inj H
   go_enter Tryz.func52, Tryz.ntmps52
   go_wp2_with (first | ((with_reducible refine gD 4 rfl ?_); refine bx w 4 #[.int .i64 a0_0, .int .i64 a0_1] 33 ?_; intro gb428 hg w23 hb BK428 GW428 GE428; clear HB; intro HB; clear hb hg; obtain ⟨hcz24_0, hcz24_1, hfz24_0, hfz24_1⟩ := cz2 BK428) | ((with_reducible refine gC 69 rfl ?_); refine gl_ 10 Tryz.func69 #[.agg #[.int .i64 a0_0, .int .i64 a0_1]] ?_; (with_reducible refine (qP.calls a0_0 a0_1 t429 _ A5.out).mono ?_); rintro e w25 ⟨rfl, hb⟩; refine ⟨_, rfl, ?_⟩; replace BK428 := bb BK428 hb; replace HB := hs w hb; (try clear hb); obtain ⟨hcz26_0, hcz26_1, hfz26_0, hfz26_1⟩ := cz2 BK428))
   go_ret
   exact ⟨by first | rfl | (simp [zq, zY] <;> rfl) | (simp [*, zq, zY] <;> rfl), (zb w)⟩
 ·rw [if_neg c6] at H
  have c6b0 : (t429 == 0) = false := beq_eq_false_iff_ne.mpr c6
  have c6b1 : (t429 != 0) = true := bne_iff_ne.mpr c6
  obtain rfl := Option.some.inj H
  go_enter Tryz.func52, Tryz.ntmps52
  go_wp2_with (first | ((with_reducible refine gD 4 rfl ?_); refine bx w 4 #[.int .i64 a0_0, .int .i64 a0_1] 33 ?_; intro gb428 hg w27 hb BK428 GW428 GE428; clear HB; intro HB; clear hb hg; obtain ⟨hcz28_0, hcz28_1, hfz28_0, hfz28_1⟩ := cz2 BK428) | ((with_reducible refine gC 69 rfl ?_); refine gl_ 10 Tryz.func69 #[.agg #[.int .i64 a0_0, .int .i64 a0_1]] ?_; (with_reducible refine (qP.calls a0_0 a0_1 t429 _ A5.out).mono ?_); rintro e w29 ⟨rfl, hb⟩; refine ⟨_, rfl, ?_⟩; replace BK428 := bb BK428 hb; replace HB := hs w hb; (try clear hb)))
  go_ret
  exact ⟨by first | rfl | (simp [zq, zY] <;> rfl) | (simp [*, zq, zY] <;> rfl), (zb w)⟩
def zP.f (k : Nat) (a0_0 : Int) (a0_1 : Int) : Option (Bool) := (jP.f k a0_0 a0_1 0 1000000000 4).bind fun t433 => (if t433 = true then (some (decide (a0_0 > 0))) else (some false))
theorem zP.calls (k : Nat) (a0_0 : Int) (a0_1 : Int) (r : Bool) (w : World) (h : zP.f k a0_0 a0_1 = some r) :
  Calls Tryz.prog 27 #[.agg #[.int .i64 a0_0, .int .i64 a0_1]] w fun e w' => e = .returned (.bool r) ∧ Below w.heap.size w w' := by
 have hu33 := Tryz.underlying33
 have HB := zQ.mk (Below.refl w.heap.size w)
 have H := h
 unfold zP.f at H
 clear h
 replace H := Option.bind_eq_some_iff.mp H
 obtain ⟨t433, A20, H⟩ := H
 try dsimp only at H
 have A2 := zQ.mk A20
 clear A20
 by_cases c3 : t433 = true
 ·subst c3
  have H1 : (some (decide (a0_0 > 0))) = some r := by rw [if_pos rfl] at H; exact H
  clear H
  have H := H1
  clear H1
  obtain rfl := Option.some.inj H
  go_enter Tryz.func27, Tryz.ntmps27
  go_wp2_with (first | ((with_reducible refine gD 1 rfl ?_); refine bx w 1 #[.int .i64 a0_0, .int .i64 a0_1] 33 ?_; intro gb432 hg w4 hb BK432 GW432 GE432; clear HB; intro HB; clear hb hg; obtain ⟨hcz5_0, hcz5_1, hfz5_0, hfz5_1⟩ := cz2 BK432) | ((with_reducible refine gC 52 rfl ?_); refine gl_ 4 Tryz.func52 #[.agg #[.int .i64 a0_0, .int .i64 a0_1], .int .i64 0, .int .i64 1000000000, .int .i64 4] ?_; (with_reducible refine (jP.calls k a0_0 a0_1 0 1000000000 4 true _ A2.out).mono ?_); rintro e w6 ⟨rfl, hb⟩; refine ⟨_, rfl, ?_⟩; replace BK432 := bb BK432 hb; replace HB := hs w hb; (try clear hb); obtain ⟨hcz7_0, hcz7_1, hfz7_0, hfz7_1⟩ := cz2 BK432))
  go_ret
  exact ⟨by first | rfl | (simp [zq, zY] <;> rfl) | (simp [*, zq, zY] <;> rfl), (zb w)⟩
 ·replace c3 := Bool.eq_false_iff.mpr c3
  subst c3
  have H1 : (some false) = some r := by rw [if_neg (show ¬ (false = true) by decide)] at H; exact H
  clear H
  have H := H1
  clear H1
  obtain rfl := Option.some.inj H
  go_enter Tryz.func27, Tryz.ntmps27
  go_wp2_with (first | ((with_reducible refine gD 1 rfl ?_); refine bx w 1 #[.int .i64 a0_0, .int .i64 a0_1] 33 ?_; intro gb432 hg w8 hb BK432 GW432 GE432; clear HB; intro HB; clear hb hg; obtain ⟨hcz9_0, hcz9_1, hfz9_0, hfz9_1⟩ := cz2 BK432) | ((with_reducible refine gC 52 rfl ?_); refine gl_ 4 Tryz.func52 #[.agg #[.int .i64 a0_0, .int .i64 a0_1], .int .i64 0, .int .i64 1000000000, .int .i64 4] ?_; (with_reducible refine (jP.calls k a0_0 a0_1 0 1000000000 4 false _ A2.out).mono ?_); rintro e w10 ⟨rfl, hb⟩; refine ⟨_, rfl, ?_⟩; replace BK432 := bb BK432 hb; replace HB := hs w hb; (try clear hb)))
  go_ret
  exact ⟨by first | rfl | (simp [zq, zY] <;> rfl) | (simp [*, zq, zY] <;> rfl), (zb w)⟩
def jv.f (a0 : Int) (a1 : Int) (a2 : Int) : Option (Bool) := if a1 ≤ a0 then (some (decide (a0 ≤ a2))) else (some false)
theorem jv.calls (a0 : Int) (a1 : Int) (a2 : Int) (r : Bool) (w : World) (h : jv.f a0 a1 a2 = some r) :
  Calls Tryz.prog 28 #[.int .i64 a0, .int .i64 a1, .int .i64 a2] w fun e w' => e = .returned (.bool r) ∧ vS w w' := by
 have H := h
 unfold jv.f at H
 clear h
 by_cases c4 : a1 ≤ a0
 ·rw [if_pos c4] at H
  have c4b0 : decide (a1 ≤ a0) = true := decide_eq_true c4
  clear c4
  obtain rfl := Option.some.inj H
  go_enter Tryz.func28, Tryz.ntmps28
  go_wp2
  go_ret
  exact ⟨ar, dr⟩
 ·rw [if_neg c4] at H
  have c4b0 : decide (a1 ≤ a0) = false := decide_eq_false c4
  clear c4
  obtain rfl := Option.some.inj H
  go_enter Tryz.func28, Tryz.ntmps28
  go_wp2
  go_ret
  exact ⟨ar, dr⟩
def zC.l0 : Nat → Int → Int → Int → Option (Int)
 | 0, _, _, _ => none
 | k + 1, x3, x8, x9 => if x9 < x8 then (zC.l0 k (wrap64 (x3 * 10)) x8 (wrap64 (x9 + 1))) else (some x3)
def zC.f (k : Nat) (a0_0 : Int) (a0_1 : Int) : Option (Int) := zC.l0 k a0_0 (wrap64 (4 - a0_1)) 0
theorem zC.calls (k : Nat) (a0_0 : Int) (a0_1 : Int) (r : Int) (w : World) (h : zC.f k a0_0 a0_1 = some r) :
  Calls Tryz.prog 39 #[.agg #[.int .i64 a0_0, .int .i64 a0_1]] w fun e w' => e = .returned (.int .i64 r) ∧ Below w.heap.size w w' := by
 have hu33 := Tryz.underlying33
 have HB := zQ.mk (Below.refl w.heap.size w)
 have H := h
 unfold zC.f at H
 clear h
 have H' := zQ.mk H
 clear H
 go_enter Tryz.func39, Tryz.ntmps39
 go_wp2_with (first | ((with_reducible refine gD 1 rfl ?_); refine bx w 1 #[.int .i64 a0_0, .int .i64 a0_1] 33 ?_; intro gb434 hg w2 hb BK434 GW434 GE434; clear HB; intro HB; clear hb hg; obtain ⟨hcz3_0, hcz3_1, hfz3_0, hfz3_1⟩ := cz2 BK434))
 try simp only [sq]
 go_loopg [3, 9] k (fun kq v3 v9 w' => ∃ (x3_1 : Int) (x9_1 : Int), v3 = .int .i64 x3_1 ∧ v9 = .int .i64 x9_1 ∧ zQ (zC.l0 kq x3_1 (wrap64 (4 - a0_1)) x9_1 = some r) ∧ zQ (kq ≤ k) ∧ zQ (w'.heap[gb434]? = some (.cells #[.int .i64 a0_0, .int .i64 a0_1] 33 (0, 0))) ∧ zQ (Below w.heap.size w w'))
 case atStart => exact ⟨(a0_0), (0), ar, ar, H', ⟨Nat.le_refl _⟩, ⟨(zk BK434)⟩, ⟨(zb w)⟩⟩
 case round =>
  clear H'
  try clear p2
  try clear c3
  try clear hcz3_0 hcz3_1 hfz3_0 hfz3_1
  obtain ⟨x3_1, x9_1, rfl, rfl, HA, HK1, BK434, HB⟩ := hrel
  cases gk with
  | zero => exact absurd HA.out (by simp [zC.l0])
  | succ k1 =>
   have H := HA.out
   clear HA
   simp only [zC.l0] at H
   by_cases c4 : x9_1 < (wrap64 (4 - a0_1))
   ·rw [if_pos c4] at H
    have c4b0 : decide (x9_1 < (wrap64 (4 - a0_1))) = true := decide_eq_true c4
    clear c4
    have H' := zQ.mk H
    clear H
    go_wp2
    go_roundg k1
    case measure => have := HK1.out; omega
    case rel => exact ⟨(wrap64 (x3_1 * 10)), (wrap64 (x9_1 + 1)), ar, ar, H', ⟨by have := HK1.out; omega⟩, ⟨(zk BK434)⟩, ⟨(zb w)⟩⟩
   ·rw [if_neg c4] at H
    have c4b0 : decide (x9_1 < (wrap64 (4 - a0_1))) = false := decide_eq_false c4
    clear c4
    obtain rfl := Option.some.inj H
    go_wp2
    go_ret
    exact ⟨by first | rfl | (simp [zq, zY] <;> rfl) | (simp [*, zq, zY] <;> rfl), (zb w)⟩
def qB.l0 : Nat → Int → Int → Option (Int × Int)
 | 0, _, _ => none
 | k + 1, x436000, x436001 => if x436001 > 0 then (if (Int.tmod x436000 10) = 0 then (qB.l0 k (wrap64 (Int.tdiv x436000 10)) (wrap64 (x436001 - 1))) else (some (x436000, x436001))) else (some (x436000, x436001))
def qB.f (k : Nat) (a0_0 : Int) (a0_1 : Int) : Option (Int × Int) := qB.l0 k a0_0 a0_1
theorem qB.calls (k : Nat) (a0_0 : Int) (a0_1 : Int) (r1 : Int) (r2 : Int) (w : World) (h : qB.f k a0_0 a0_1 = some (r1, r2)) :
  Calls Tryz.prog 42 #[.agg #[.int .i64 a0_0, .int .i64 a0_1]] w fun e w' => e = .returned (.agg #[.int .i64 r1, .int .i64 r2]) ∧ Below w.heap.size w w' := by
 have hu33 := Tryz.underlying33
 have HB := zQ.mk (Below.refl w.heap.size w)
 have H := h
 unfold qB.f at H
 clear h
 have H' := zQ.mk H
 clear H
 go_enter Tryz.func42, Tryz.ntmps42
 go_wp2_with (first | ((with_reducible refine gD 1 rfl ?_); refine bx w 1 #[.int .i64 a0_0, .int .i64 a0_1] 33 ?_; intro gb435 hg w2 hb BK435 GW435 GE435; clear HB; intro HB; clear hb hg) | ((with_reducible refine gD 2 rfl ?_); refine bx w 2 #[.int .i64 0, .int .i64 0] 33 ?_; intro gb436 hg w3 hb BK436 GW436 GE436; clear HB; intro HB; have NB435_436 := nbl BK435 hg; have NB436_435 := nbr BK435 hg; replace BK435 := bb BK435 hb; clear hb hg))
 try simp only [sq]
 go_loopg [] k (fun kq w' => ∃ (x436000_1 : Int) (x436001_1 : Int), zQ (qB.l0 kq x436000_1 x436001_1 = some (r1, r2)) ∧ zQ (kq ≤ k) ∧ zQ (w'.heap[gb435]? = some (.cells #[.int .i64 x436000_1, .int .i64 x436001_1] 33 (0, 0))) ∧ zQ (w'.heap[gb436]? = some (.cells #[.int .i64 0, .int .i64 0] 33 (0, 0))) ∧ zQ (Below w.heap.size w w'))
 case atStart => exact ⟨(a0_0), (a0_1), H', ⟨Nat.le_refl _⟩, ⟨(zk BK435)⟩, ⟨(zk BK436)⟩, ⟨(zb w)⟩⟩
 case round =>
  clear H'
  try clear p2
  obtain ⟨x436000_1, x436001_1, HA, HK1, BK435, BK436, HB⟩ := hrel
  cases gk with
  | zero => exact absurd HA.out (by simp [qB.l0])
  | succ k1 =>
   have H := HA.out
   clear HA
   simp only [qB.l0] at H
   by_cases c4 : x436001_1 > 0
   ·rw [if_pos c4] at H
    have c4b0 : decide (0 < x436001_1) = true := decide_eq_true c4
    clear c4
    by_cases c5 : (Int.tmod x436000_1 10) = 0
    ·rw [if_pos c5] at H
     have c5b0 : ((Int.tmod x436000_1 10) == 0) = true := beq_iff_eq.mpr c5
     have c5b1 : ((Int.tmod x436000_1 10) != 0) = false := bne_eq_false_iff_eq.mpr c5
     clear c5
     have H' := zQ.mk H
     clear H
     have hnb6 := NB435_436.out
     have hnc6 := NB436_435.out
     obtain ⟨hcz7_0, hcz7_1, hfz7_0, hfz7_1⟩ := cz2 BK435
     go_wp2
     go_roundg k1
     case measure => have := HK1.out; omega
     case rel => exact ⟨(wrap64 (Int.tdiv x436000_1 10)), (wrap64 (x436001_1 - 1)), H', ⟨by have := HK1.out; omega⟩, ⟨by (with_reducible repeat (first | refine zJ ?_ _ | refine zK ?_ | refine zZ ?_ _)); refine zL (cs := #[.int .i64 (wrap64 (Int.tdiv x436000_1 10)), .int .i64 x436001_1]) ?_ 1 _ rfl; (with_reducible repeat (first | refine zJ ?_ _ | refine zK ?_ | refine zZ ?_ _)); refine zL (cs := #[.int .i64 x436000_1, .int .i64 x436001_1]) ?_ 0 _ rfl; exact zk BK435⟩, ⟨by (with_reducible repeat (first | refine zJ ?_ _ | refine zK ?_ | refine zZ ?_ _)); refine zF ?_ NB436_435.out _; (with_reducible repeat (first | refine zJ ?_ _ | refine zK ?_ | refine zZ ?_ _)); refine zF ?_ NB436_435.out _; exact zk BK436⟩, ⟨(zb w)⟩⟩
    ·rw [if_neg c5] at H
     have c5b0 : ((Int.tmod x436000_1 10) == 0) = false := beq_eq_false_iff_ne.mpr c5
     have c5b1 : ((Int.tmod x436000_1 10) != 0) = true := bne_iff_ne.mpr c5
     simp only [Option.some.injEq, Prod.mk.injEq] at H
     obtain ⟨rfl, rfl⟩ := H
     have hnb8 := NB435_436.out
     have hnc8 := NB436_435.out
     obtain ⟨hcz9_0, hcz9_1, hfz9_0, hfz9_1⟩ := cz2 BK435
     obtain ⟨hcz10_0, hcz10_1, hfz10_0, hfz10_1⟩ := cz2 BK436
     go_wp2
     refine bodyPost_ret (results_cell_row rfl _ _ gb436 33 #[.int .i64 x436000_1, .int .i64 x436001_1] (0, 0) _ rfl (by (with_reducible repeat (first | refine zJ ?_ _ | refine zK ?_ | refine zZ ?_ _)); refine zL (cs := #[.int .i64 x436000_1, .int .i64 0]) ?_ 1 _ rfl; (with_reducible repeat (first | refine zJ ?_ _ | refine zK ?_ | refine zZ ?_ _)); refine zL (cs := #[.int .i64 0, .int .i64 0]) ?_ 0 _ rfl; exact zk BK436) Tryz.underlying33 rfl (by kernel_rfl)) rfl ?_
     exact ⟨by first | rfl | (simp [zq, zY] <;> rfl) | (simp [*, zq, zY] <;> rfl), (zb w)⟩
   ·rw [if_neg c4] at H
    have c4b0 : decide (0 < x436001_1) = false := decide_eq_false c4
    clear c4
    simp only [Option.some.injEq, Prod.mk.injEq] at H
    obtain ⟨rfl, rfl⟩ := H
    have hnb11 := NB435_436.out
    have hnc11 := NB436_435.out
    obtain ⟨hcz12_0, hcz12_1, hfz12_0, hfz12_1⟩ := cz2 BK435
    obtain ⟨hcz13_0, hcz13_1, hfz13_0, hfz13_1⟩ := cz2 BK436
    go_wp2
    refine bodyPost_ret (results_cell_row rfl _ _ gb436 33 #[.int .i64 x436000_1, .int .i64 x436001_1] (0, 0) _ rfl (by (with_reducible repeat (first | refine zJ ?_ _ | refine zK ?_ | refine zZ ?_ _)); refine zL (cs := #[.int .i64 x436000_1, .int .i64 0]) ?_ 1 _ rfl; (with_reducible repeat (first | refine zJ ?_ _ | refine zK ?_ | refine zZ ?_ _)); refine zL (cs := #[.int .i64 0, .int .i64 0]) ?_ 0 _ rfl; exact zk BK436) Tryz.underlying33 rfl (by kernel_rfl)) rfl ?_
    exact ⟨by first | rfl | (simp [zq, zY] <;> rfl) | (simp [*, zq, zY] <;> rfl), (zb w)⟩
def qF.f (k : Nat) (a0 : Int) : Option (Int × Int) := (qB.f k a0 4).bind fun bt438 => (some (bt438.1, bt438.2))
theorem qF.calls (k : Nat) (a0 : Int) (r1 : Int) (r2 : Int) (w : World) (h : qF.f k a0 = some (r1, r2)) :
  Calls Tryz.prog 21 #[.int .i64 a0] w fun e w' => e = .returned (.agg #[.int .i64 r1, .int .i64 r2]) ∧ Below w.heap.size w w' := by
 have hu33 := Tryz.underlying33
 have HB := zQ.mk (Below.refl w.heap.size w)
 have H := h
 unfold qF.f at H
 clear h
 replace H := Option.bind_eq_some_iff.mp H
 obtain ⟨⟨t438, t439⟩, A20, H⟩ := H
 try dsimp only at H
 have A2 := zQ.mk A20
 clear A20
 simp only [Option.some.injEq, Prod.mk.injEq] at H
 obtain ⟨rfl, rfl⟩ := H
 go_enter Tryz.func21, Tryz.ntmps21
 go_wp2_with (first | ((with_reducible refine gD 2 rfl ?_); refine bx w 2 #[.int .i64 0, .int .i64 0] 33 ?_; intro gb437 hg w3 hb BK437 GW437 GE437; clear HB; intro HB; clear hb hg) | ((with_reducible refine gC 42 rfl ?_); refine gl_ 5 Tryz.func42 #[.agg #[.int .i64 a0, .int .i64 4]] ?_; (with_reducible refine (qB.calls k a0 4 t438 t439 _ A2.out).mono ?_); rintro e w4 ⟨rfl, hb⟩; refine ⟨_, rfl, ?_⟩; replace BK437 := bb BK437 hb; replace HB := hs w hb; (try clear hb); obtain ⟨hcz5_0, hcz5_1, hfz5_0, hfz5_1⟩ := cz2 BK437))
 refine bodyPost_ret (results_cell_row rfl _ _ gb437 33 #[.int .i64 t438, .int .i64 t439] (0, 0) _ rfl (by (with_reducible repeat (first | refine zJ ?_ _ | refine zK ?_ | refine zZ ?_ _)); refine zL (cs := #[.int .i64 t438, .int .i64 0]) ?_ 1 _ rfl; (with_reducible repeat (first | refine zJ ?_ _ | refine zK ?_ | refine zZ ?_ _)); refine zL (cs := #[.int .i64 0, .int .i64 0]) ?_ 0 _ rfl; exact zk BK437) Tryz.underlying33 rfl (by kernel_rfl)) rfl ?_
 exact ⟨by first | rfl | (simp [zq, zY] <;> rfl) | (simp [*, zq, zY] <;> rfl), (zb w)⟩
mutual
def zW.l0 : Nat → List (S72) → List (S72) → Int → Int → Option (Int)
 | 0, _, _, _, _ => none
 | k + 1, x0, x10, x11, x12 => if x12 < x11 then (if 0 ≤ x12 then (if x12 < (x10.length : Int) then ((qZ.f ((zX x10 x12).f0)).bind fun t442 => (if t442 = true then (if x12 > 0 then (if 0 ≤ (wrap64 (x12 - 1)) then (if (wrap64 (x12 - 1)) < (x0.length : Int) then (zW.j1 k x0 x10 x11 x12 (decide (((zX x10 x12).f0) < ((zX x0 (wrap64 (x12 - 1))).f0))) ((zX x10 x12).f0) ((zX x10 x12).f1.f0) ((zX x10 x12).f1.f1) ((zX x10 x12).f2)) else (none)) else (none)) else (zW.j1 k x0 x10 x11 x12 false ((zX x10 x12).f0) ((zX x10 x12).f1.f0) ((zX x10 x12).f1.f1) ((zX x10 x12).f2))) else (some 1))) else (none)) else (none)) else (some 0)
def zW.j1 : Nat → List (S72) → List (S72) → Int → Int → Bool → Int → Int → Int → List ByteArray → Option (Int)
 | 0, _, _, _, _, _, _, _, _, _ => none
 | k + 1, x0, x10, x11, x12, x22, x442000, x442001, x442002, x442003 => if x22 = true then (some 8) else ((zP.f k x442001 x442002).bind fun t444 => (if t444 = true then (if (x442003.length : Int) > 100 then (some 2) else (zW.l1 k x0 x10 x11 x12 x442003 (x442003.length : Int) 0 x442000 x442001 x442002 x442003)) else (some 1)))
def zW.l1 : Nat → List (S72) → List (S72) → Int → Int → List ByteArray → Int → Int → Int → Int → Int → List ByteArray → Option (Int)
 | 0, _, _, _, _, _, _, _, _, _, _, _ => none
 | k + 1, x0, x10, x11, x12, x47, x48, x49, x442000, x442001, x442002, x442003 => if x49 < x48 then (if 0 ≤ x49 then (if x49 < (x47.length : Int) then ((zS.f k (rdOf ByteArray.empty x47 x49)).bind fun t446 => (if t446 = true then (if x49 ≤ (x442003.length : Int) then ((zN.f k (x442003.take (x49 : Int).toNat) (rdOf ByteArray.empty x47 x49)).bind fun t448 => (if t448 = true then (some 7) else (zW.l1 k x0 x10 x11 x12 x47 x48 (wrap64 (x49 + 1)) x442000 x442001 x442002 x442003))) else (none)) else (some 5))) else (none)) else (none)) else (zW.l0 k x0 x10 x11 (wrap64 (x12 + 1)))
end
def zW.f (k : Nat) (l0 : List (S72)) : Option (Int) := if (l0.length : Int) > 500 then (some 2) else (zW.l0 k l0 l0 (l0.length : Int) 0)
theorem zW.calls (k : Nat) (A0 : Option Addr) (c0 : Nat) (l0 : List (S72)) (r : Int) (w : World) (hr0 : Kd.C k72 w A0 l0.length l0) (hc0 : l0.length ≤ c0) (h : zW.f k l0 = some r) :
  Calls Tryz.prog 9 #[.slice A0 l0.length c0] w fun e w' => e = .returned (.int .i64 r) ∧ Below w.heap.size w w' := by
 have hu72 := Tryz.underlying72
 have hu33 := Tryz.underlying33
 have HR0 := zQ.mk hr0
 have HC0 := zQ.mk hc0
 clear hr0 hc0
 have HB := zQ.mk (Below.refl w.heap.size w)
 have H := h
 unfold zW.f at H
 clear h
 by_cases c2 : (l0.length : Int) > 500
 ·rw [if_pos c2] at H
  have c2b0 : decide (500 < (l0.length : Int)) = true := decide_eq_true c2
  have c2b1 : decide (500 < l0.length) = true := decide_eq_true (by omega)
  clear c2
  obtain rfl := Option.some.inj H
  go_enter Tryz.func9, Tryz.ntmps9
  go_wp2
  repeat (go_quiet (fail); try go_wp2)
  go_ret
  exact ⟨by first | rfl | (simp [zq, zY] <;> rfl) | (simp [*, zq, zY] <;> rfl), (zb w)⟩
 ·rw [if_neg c2] at H
  have c2b0 : decide (500 < (l0.length : Int)) = false := decide_eq_false c2
  have c2b1 : decide (500 < l0.length) = false := decide_eq_false (by omega)
  clear c2
  have H' := zQ.mk H
  clear H
  go_enter Tryz.func9, Tryz.ntmps9
  go_wp2
  repeat (go_quiet (fail); try go_wp2)
  try simp only [sq]
  go_loopg [12] k (fun kq v12 w' => ∃ (x12_1 : Int), v12 = .int .i64 x12_1 ∧ zQ (zW.l0 kq l0 l0 (l0.length : Int) x12_1 = some r) ∧ zQ (kq ≤ k) ∧ zQ (Below w.heap.size w w'))
  case atStart => exact ⟨(0), ar, H', ⟨Nat.le_refl _⟩, ⟨(zb w)⟩⟩
  case round =>
   clear H'
   try clear c2
   try clear c2b0
   try clear c2b1
   try clear p2
   obtain ⟨x12_1, rfl, HA, HK1, HB⟩ := hrel
   cases gk with
   | zero => exact absurd HA.out (by simp [zW.l0])
   | succ k1 =>
    have H := HA.out
    clear HA
    simp only [zW.l0] at H
    by_cases c3 : x12_1 < (l0.length : Int)
    ·rw [if_pos c3] at H
     have c3b0 : decide (x12_1 < (l0.length : Int)) = true := decide_eq_true c3
     clear c3
     by_cases c4 : 0 ≤ x12_1
     ·rw [if_pos c4] at H
      have c4b0 : decide (0 ≤ x12_1) = true := decide_eq_true c4
      clear c4
      by_cases c5 : x12_1 < (l0.length : Int)
      ·rw [if_pos c5] at H
       have c5b0 : decide (x12_1 < (l0.length : Int)) = true := decide_eq_true c5
       clear c5
       replace H := Option.bind_eq_some_iff.mp H
       obtain ⟨t442, A60, H⟩ := H
       try dsimp only at H
       have A6 := zQ.mk A60
       clear A60
       by_cases c7 : t442 = true
       ·subst c7
        have H1 : (if x12_1 > 0 then (if 0 ≤ (wrap64 (x12_1 - 1)) then (if (wrap64 (x12_1 - 1)) < (l0.length : Int) then (zW.j1 k1 l0 l0 (l0.length : Int) x12_1 (decide (((zX l0 x12_1).f0) < ((zX l0 (wrap64 (x12_1 - 1))).f0))) ((zX l0 x12_1).f0) ((zX l0 x12_1).f1.f0) ((zX l0 x12_1).f1.f1) ((zX l0 x12_1).f2)) else (none)) else (none)) else (zW.j1 k1 l0 l0 (l0.length : Int) x12_1 false ((zX l0 x12_1).f0) ((zX l0 x12_1).f1.f0) ((zX l0 x12_1).f1.f1) ((zX l0 x12_1).f2))) = some r := by rw [if_pos rfl] at H; exact H
        clear H
        have H := H1
        clear H1
        have HC8 := zQ.mk H
        clear H
        have p440 : 0 ≤ (x12_1 : Int) := of_decide_eq_true (by assumption)
        have q440 : x12_1 < (l0.length : Int) := of_decide_eq_true (by assumption)
        obtain ⟨ad440, A440_3, c440_3, e440, hx440_0, hx440_1, hx440_2, hx440_3, hl440_3, hi440_3⟩ := zKl HR0.out x12_1 p440 q440
        cases e440
        replace hx440_0 := hz HB hx440_0
        replace hx440_1 := hz HB hx440_1
        replace hx440_2 := hz HB hx440_2
        replace hx440_3 := hz HB hx440_3
        have HR440_3 := zQ.mk hi440_3
        have HC440_3 := zQ.mk hl440_3
        clear hi440_3 hl440_3
        replace p440 := eq_true p440
        replace q440 := eq_true q440
        go_upto_region 8 with (first | ((with_reducible refine gD 4 rfl ?_); refine bx w 4 #[.int .i64 0, .int .i64 0, .int .i64 0, .slice none 0 0] 72 ?_; intro gb441 hg w9 hb BK441 GW441 GE441; clear HB; intro HB; clear hb hg; obtain ⟨hcz10_0, hcz10_1, hcz10_2, hcz10_3, hfz10_0, hfz10_1, hfz10_2, hfz10_3⟩ := cz4 BK441) | (go_at_call 26; (with_reducible refine (qZ.calls ((zX l0 x12_1).f0) true _ A6.out).mono ?_); rintro e w' ⟨rfl, ⟨nd, rfl⟩⟩; (try first | exact ⟨rfl, _, World.drewN_drewN _ _ _⟩ | exact ⟨rfl, _, Eq.trans (World.drewN_drewN _ _ _) (congrArg (World.drewN _) (Nat.add_assoc _ _ _))⟩)))
        repeat (go_quiet (first | ((with_reducible refine gD 4 rfl ?_); refine bx w 4 #[.int .i64 0, .int .i64 0, .int .i64 0, .slice none 0 0] 72 ?_; intro gb441 hg w9 hb BK441 GW441 GE441; clear HB; intro HB; clear hb hg; obtain ⟨hcz10_0, hcz10_1, hcz10_2, hcz10_3, hfz10_0, hfz10_1, hfz10_2, hfz10_3⟩ := cz4 BK441) | (go_at_call 26; (with_reducible refine (qZ.calls ((zX l0 x12_1).f0) true _ A6.out).mono ?_); rintro e w' ⟨rfl, ⟨nd, rfl⟩⟩; (try first | exact ⟨rfl, _, World.drewN_drewN _ _ _⟩ | exact ⟨rfl, _, Eq.trans (World.drewN_drewN _ _ _) (congrArg (World.drewN _) (Nat.add_assoc _ _ _))⟩))); go_upto_region 8 with (first | ((with_reducible refine gD 4 rfl ?_); refine bx w 4 #[.int .i64 0, .int .i64 0, .int .i64 0, .slice none 0 0] 72 ?_; intro gb441 hg w9 hb BK441 GW441 GE441; clear HB; intro HB; clear hb hg; obtain ⟨hcz10_0, hcz10_1, hcz10_2, hcz10_3, hfz10_0, hfz10_1, hfz10_2, hfz10_3⟩ := cz4 BK441) | (go_at_call 26; (with_reducible refine (qZ.calls ((zX l0 x12_1).f0) true _ A6.out).mono ?_); rintro e w' ⟨rfl, ⟨nd, rfl⟩⟩; (try first | exact ⟨rfl, _, World.drewN_drewN _ _ _⟩ | exact ⟨rfl, _, Eq.trans (World.drewN_drewN _ _ _) (congrArg (World.drewN _) (Nat.add_assoc _ _ _))⟩))))
        (try simp only [sq])
        go_cut [22] (fun v22 wc => ∃ (kq : Nat) (x22_7 : Bool), v22 = .bool x22_7 ∧ zQ (zW.j1 kq l0 l0 (l0.length : Int) x12_1 x22_7 ((zX l0 x12_1).f0) ((zX l0 x12_1).f1.f0) ((zX l0 x12_1).f1.f1) ((zX l0 x12_1).f2) = some r) ∧ zQ (kq ≤ k1) ∧ zQ (wc.heap[gb441]? = some (.cells #[.int .i64 ((zX l0 x12_1).f0), .int .i64 ((zX l0 x12_1).f1.f0), .int .i64 ((zX l0 x12_1).f1.f1), (.slice A440_3 ((zX l0 x12_1).f2).length c440_3)] 72 (0, 0))) ∧ zQ (Below w.heap.size w wc))
        case first =>
         have H := HC8.out
         clear HC8
         by_cases c11 : x12_1 > 0
         ·rw [if_pos c11] at H
          have c11b0 : decide (0 < x12_1) = true := decide_eq_true c11
          clear c11
          (first | rw [c11b0] | (simp only [jw, vL]; rw [c11b0]) | skip)
          obtain ⟨ji12, hji12⟩ : ∃ j_ : Int, (wrap64 (x12_1 - 1)) = j_ := ⟨_, rfl⟩
          replace H : (if 0 ≤ (ji12) then (if (ji12) < (l0.length : Int) then (zW.j1 k1 l0 l0 (l0.length : Int) x12_1 (decide (((zX l0 x12_1).f0) < ((zX l0 (ji12)).f0))) ((zX l0 x12_1).f0) ((zX l0 x12_1).f1.f0) ((zX l0 x12_1).f1.f1) ((zX l0 x12_1).f2)) else (none)) else (none)) = some r := by first | (rw [hji12] at H; exact H) | (simp only [hji12] at H ⊢; exact H)
          have hji12w : (IntKind.i64.wrap (x12_1 - 1)) = ji12 := (jw _).trans hji12
          by_cases c13 : 0 ≤ (ji12)
          ·rw [if_pos c13] at H
           have c13b0 : decide (0 ≤ (ji12)) = true := decide_eq_true c13
           clear c13
           by_cases c14 : (ji12) < (l0.length : Int)
           ·rw [if_pos c14] at H
            have c14b0 : decide ((ji12) < (l0.length : Int)) = true := decide_eq_true c14
            clear c14
            have H' := zQ.mk H
            clear H
            obtain ⟨hcz15_0, hcz15_1, hcz15_2, hcz15_3, hfz15_0, hfz15_1, hfz15_2, hfz15_3⟩ := cz4 BK441
            have p443 : 0 ≤ ((ji12) : Int) := of_decide_eq_true (by assumption)
            have q443 : (ji12) < (l0.length : Int) := of_decide_eq_true (by assumption)
            obtain ⟨ad443, A443_3, c443_3, e443, hx443_0, hx443_1, hx443_2, hx443_3, hl443_3, hi443_3⟩ := zKl HR0.out (ji12) p443 q443
            obtain rfl : ad440 = ad443 := (by injection e443)
            have hn443_0 : ad440.block ≠ gb441 := Nat.ne_of_lt (Nat.lt_of_lt_of_le (by have := World.block_lt_of_cell? _ _ hx443_0; first | rwa [add_block] at this | exact this) GW441.out)
            have hn443_1 : ad440.block ≠ gb441 := Nat.ne_of_lt (Nat.lt_of_lt_of_le (by have := World.block_lt_of_cell? _ _ hx443_0; first | rwa [add_block] at this | exact this) GW441.out)
            have hn443_2 : ad440.block ≠ gb441 := Nat.ne_of_lt (Nat.lt_of_lt_of_le (by have := World.block_lt_of_cell? _ _ hx443_0; first | rwa [add_block] at this | exact this) GW441.out)
            have hn443_3 : ad440.block ≠ gb441 := Nat.ne_of_lt (Nat.lt_of_lt_of_le (by have := World.block_lt_of_cell? _ _ hx443_0; first | rwa [add_block] at this | exact this) GW441.out)
            replace hx443_0 := hz HB hx443_0
            replace hx443_1 := hz HB hx443_1
            replace hx443_2 := hz HB hx443_2
            replace hx443_3 := hz HB hx443_3
            have HR443_3 := zQ.mk hi443_3
            have HC443_3 := zQ.mk hl443_3
            clear hi443_3 hl443_3
            replace hx443_0 := (cell_far (p := ⟨gb441, 0, none⟩) (by first | (rw [add_block]; exact hn443_0) | (show (Addr.add _ _).block ≠ _; rw [add_block]; exact hn443_0) | exact hn443_0) (.int .i64 ((zX l0 x12_1).f0))).trans hx443_0
            replace hx443_1 := (cell_far (p := ⟨gb441, 0, none⟩) (by first | (rw [add_block]; exact hn443_0) | (show (Addr.add _ _).block ≠ _; rw [add_block]; exact hn443_0) | exact hn443_0) (.int .i64 ((zX l0 x12_1).f0))).trans hx443_1
            replace hx443_2 := (cell_far (p := ⟨gb441, 0, none⟩) (by first | (rw [add_block]; exact hn443_0) | (show (Addr.add _ _).block ≠ _; rw [add_block]; exact hn443_0) | exact hn443_0) (.int .i64 ((zX l0 x12_1).f0))).trans hx443_2
            replace hx443_3 := (cell_far (p := ⟨gb441, 0, none⟩) (by first | (rw [add_block]; exact hn443_0) | (show (Addr.add _ _).block ≠ _; rw [add_block]; exact hn443_0) | exact hn443_0) (.int .i64 ((zX l0 x12_1).f0))).trans hx443_3
            replace hx443_0 := (cell_far (p := ⟨gb441, 1, none⟩) (by first | (rw [add_block]; exact hn443_1) | (show (Addr.add _ _).block ≠ _; rw [add_block]; exact hn443_1) | exact hn443_1) (.int .i64 ((zX l0 x12_1).f1.f0))).trans hx443_0
            replace hx443_1 := (cell_far (p := ⟨gb441, 1, none⟩) (by first | (rw [add_block]; exact hn443_1) | (show (Addr.add _ _).block ≠ _; rw [add_block]; exact hn443_1) | exact hn443_1) (.int .i64 ((zX l0 x12_1).f1.f0))).trans hx443_1
            replace hx443_2 := (cell_far (p := ⟨gb441, 1, none⟩) (by first | (rw [add_block]; exact hn443_1) | (show (Addr.add _ _).block ≠ _; rw [add_block]; exact hn443_1) | exact hn443_1) (.int .i64 ((zX l0 x12_1).f1.f0))).trans hx443_2
            replace hx443_3 := (cell_far (p := ⟨gb441, 1, none⟩) (by first | (rw [add_block]; exact hn443_1) | (show (Addr.add _ _).block ≠ _; rw [add_block]; exact hn443_1) | exact hn443_1) (.int .i64 ((zX l0 x12_1).f1.f0))).trans hx443_3
            replace hx443_0 := (cell_far (p := ⟨gb441, 2, none⟩) (by first | (rw [add_block]; exact hn443_2) | (show (Addr.add _ _).block ≠ _; rw [add_block]; exact hn443_2) | exact hn443_2) (.int .i64 ((zX l0 x12_1).f1.f1))).trans hx443_0
            replace hx443_1 := (cell_far (p := ⟨gb441, 2, none⟩) (by first | (rw [add_block]; exact hn443_2) | (show (Addr.add _ _).block ≠ _; rw [add_block]; exact hn443_2) | exact hn443_2) (.int .i64 ((zX l0 x12_1).f1.f1))).trans hx443_1
            replace hx443_2 := (cell_far (p := ⟨gb441, 2, none⟩) (by first | (rw [add_block]; exact hn443_2) | (show (Addr.add _ _).block ≠ _; rw [add_block]; exact hn443_2) | exact hn443_2) (.int .i64 ((zX l0 x12_1).f1.f1))).trans hx443_2
            replace hx443_3 := (cell_far (p := ⟨gb441, 2, none⟩) (by first | (rw [add_block]; exact hn443_2) | (show (Addr.add _ _).block ≠ _; rw [add_block]; exact hn443_2) | exact hn443_2) (.int .i64 ((zX l0 x12_1).f1.f1))).trans hx443_3
            replace hx443_0 := (cell_far (p := ⟨gb441, 3, none⟩) (by first | (rw [add_block]; exact hn443_3) | (show (Addr.add _ _).block ≠ _; rw [add_block]; exact hn443_3) | exact hn443_3) (.slice A440_3 ((zX l0 x12_1).f2).length c440_3)).trans hx443_0
            replace hx443_1 := (cell_far (p := ⟨gb441, 3, none⟩) (by first | (rw [add_block]; exact hn443_3) | (show (Addr.add _ _).block ≠ _; rw [add_block]; exact hn443_3) | exact hn443_3) (.slice A440_3 ((zX l0 x12_1).f2).length c440_3)).trans hx443_1
            replace hx443_2 := (cell_far (p := ⟨gb441, 3, none⟩) (by first | (rw [add_block]; exact hn443_3) | (show (Addr.add _ _).block ≠ _; rw [add_block]; exact hn443_3) | exact hn443_3) (.slice A440_3 ((zX l0 x12_1).f2).length c440_3)).trans hx443_2
            replace hx443_3 := (cell_far (p := ⟨gb441, 3, none⟩) (by first | (rw [add_block]; exact hn443_3) | (show (Addr.add _ _).block ≠ _; rw [add_block]; exact hn443_3) | exact hn443_3) (.slice A440_3 ((zX l0 x12_1).f2).length c440_3)).trans hx443_3
            (try have hy443_0 := fun (n_ : Nat) => (show ((((((w9.drewN n_).setCell ⟨gb441, 0, none⟩ (.int .i64 ((zX l0 x12_1).f0))).setCell ⟨gb441, 1, none⟩ (.int .i64 ((zX l0 x12_1).f1.f0))).setCell ⟨gb441, 2, none⟩ (.int .i64 ((zX l0 x12_1).f1.f1))).setCell ⟨gb441, 3, none⟩ (.slice A440_3 ((zX l0 x12_1).f2).length c440_3))).cell? _ = some _ from hx443_0))
            (try have hy443_1 := fun (n_ : Nat) => (show ((((((w9.drewN n_).setCell ⟨gb441, 0, none⟩ (.int .i64 ((zX l0 x12_1).f0))).setCell ⟨gb441, 1, none⟩ (.int .i64 ((zX l0 x12_1).f1.f0))).setCell ⟨gb441, 2, none⟩ (.int .i64 ((zX l0 x12_1).f1.f1))).setCell ⟨gb441, 3, none⟩ (.slice A440_3 ((zX l0 x12_1).f2).length c440_3))).cell? _ = some _ from hx443_1))
            (try have hy443_2 := fun (n_ : Nat) => (show ((((((w9.drewN n_).setCell ⟨gb441, 0, none⟩ (.int .i64 ((zX l0 x12_1).f0))).setCell ⟨gb441, 1, none⟩ (.int .i64 ((zX l0 x12_1).f1.f0))).setCell ⟨gb441, 2, none⟩ (.int .i64 ((zX l0 x12_1).f1.f1))).setCell ⟨gb441, 3, none⟩ (.slice A440_3 ((zX l0 x12_1).f2).length c440_3))).cell? _ = some _ from hx443_2))
            (try have hy443_3 := fun (n_ : Nat) => (show ((((((w9.drewN n_).setCell ⟨gb441, 0, none⟩ (.int .i64 ((zX l0 x12_1).f0))).setCell ⟨gb441, 1, none⟩ (.int .i64 ((zX l0 x12_1).f1.f0))).setCell ⟨gb441, 2, none⟩ (.int .i64 ((zX l0 x12_1).f1.f1))).setCell ⟨gb441, 3, none⟩ (.slice A440_3 ((zX l0 x12_1).f2).length c440_3))).cell? _ = some _ from hx443_3))
            clear hn443_0
            clear hn443_1
            clear hn443_2
            clear hn443_3
            replace p443 := eq_true p443
            replace q443 := eq_true q443
            go_wp2
            repeat (go_quiet (fail); try go_wp2)
            go_meet
            case rel => exact ⟨_, (decide (((zX l0 x12_1).f0) < ((zX l0 (ji12)).f0))), (by first | rfl | (simp; done) | (simp only [← hji12] <;> (first | rfl | simp)) | (simp [*]; done)), H', ⟨by have := HK1.out; first | omega | exact Nat.le_refl _⟩, ⟨by (with_reducible repeat (first | refine zJ ?_ _ | refine zK ?_ | refine zZ ?_ _)); refine zL (cs := #[.int .i64 ((zX l0 x12_1).f0), .int .i64 ((zX l0 x12_1).f1.f0), .int .i64 ((zX l0 x12_1).f1.f1), .slice none 0 0]) ?_ 3 _ rfl; (with_reducible repeat (first | refine zJ ?_ _ | refine zK ?_ | refine zZ ?_ _)); refine zL (cs := #[.int .i64 ((zX l0 x12_1).f0), .int .i64 ((zX l0 x12_1).f1.f0), .int .i64 0, .slice none 0 0]) ?_ 2 _ rfl; (with_reducible repeat (first | refine zJ ?_ _ | refine zK ?_ | refine zZ ?_ _)); refine zL (cs := #[.int .i64 ((zX l0 x12_1).f0), .int .i64 0, .int .i64 0, .slice none 0 0]) ?_ 1 _ rfl; (with_reducible repeat (first | refine zJ ?_ _ | refine zK ?_ | refine zZ ?_ _)); refine zL (cs := #[.int .i64 0, .int .i64 0, .int .i64 0, .slice none 0 0]) ?_ 0 _ rfl; exact zk BK441⟩, ⟨(zb w)⟩⟩
           ·rw [if_neg c14] at H
            exact absurd H (by simp)
          ·rw [if_neg c13] at H
           exact absurd H (by simp)
         ·rw [if_neg c11] at H
          have c11b0 : decide (0 < x12_1) = false := decide_eq_false c11
          clear c11
          (first | rw [c11b0] | (simp only [jw, vL]; rw [c11b0]) | skip)
          have H' := zQ.mk H
          clear H
          go_wp2
          repeat (go_quiet (fail); try go_wp2)
          go_meet
          case rel => exact ⟨_, (false), ar, H', ⟨by have := HK1.out; first | omega | exact Nat.le_refl _⟩, ⟨by (with_reducible repeat (first | refine zJ ?_ _ | refine zK ?_ | refine zZ ?_ _)); refine zL (cs := #[.int .i64 ((zX l0 x12_1).f0), .int .i64 ((zX l0 x12_1).f1.f0), .int .i64 ((zX l0 x12_1).f1.f1), .slice none 0 0]) ?_ 3 _ rfl; (with_reducible repeat (first | refine zJ ?_ _ | refine zK ?_ | refine zZ ?_ _)); refine zL (cs := #[.int .i64 ((zX l0 x12_1).f0), .int .i64 ((zX l0 x12_1).f1.f0), .int .i64 0, .slice none 0 0]) ?_ 2 _ rfl; (with_reducible repeat (first | refine zJ ?_ _ | refine zK ?_ | refine zZ ?_ _)); refine zL (cs := #[.int .i64 ((zX l0 x12_1).f0), .int .i64 0, .int .i64 0, .slice none 0 0]) ?_ 1 _ rfl; (with_reducible repeat (first | refine zJ ?_ _ | refine zK ?_ | refine zZ ?_ _)); refine zL (cs := #[.int .i64 0, .int .i64 0, .int .i64 0, .slice none 0 0]) ?_ 0 _ rfl; exact zk BK441⟩, ⟨(zb w)⟩⟩
        case rest =>
         clear HC8
         try clear c1
         try clear c2
         try clear c2b0
         try clear c2b1
         try clear p2
         try clear c3
         try clear c3b0
         try clear c4
         try clear c4b0
         try clear p4
         try clear q4
         try clear hx4
         try clear c5
         try clear c5b0
         try clear p6
         try clear c7
         try clear c9
         try clear c11
         try clear c11b0
         try clear c13
         try clear c13b0
         try clear c14
         try clear c14b0
         try clear hcz10_0 hcz10_1 hcz10_2 hcz10_3
         try clear hcz15_0 hcz15_1 hcz15_2 hcz15_3
         try clear hfz10_0 hfz10_1 hfz10_2 hfz10_3
         try clear hfz15_0 hfz15_1 hfz15_2 hfz15_3
         try clear hx440_0
         try clear hx440_1
         try clear hx440_2
         try clear hx440_3
         try clear hx443_0
         try clear hx443_1
         try clear hx443_2
         try clear hx443_3
         try clear p2
         try clear p440
         try clear p443
         try clear q440
         try clear q443
         obtain ⟨kq, x22_7, rfl, HA, HJ7, BK441, HB⟩ := hcut
         cases kq with
         | zero => exact absurd HA.out (by simp [zW.j1])
         | succ kj7 =>
          have H := HA.out
          clear HA
          simp only [zW.j1] at H
          by_cases c16 : x22_7 = true
          ·subst c16
           have H1 : (some 8) = some r := by rw [if_pos rfl] at H; exact H
           clear H
           have H := H1
           clear H1
           obtain rfl := Option.some.inj H
           go_wp2
           repeat (go_quiet (fail); try go_wp2)
           go_ret
           exact ⟨by first | rfl | (simp [zq, zY] <;> rfl) | (simp [*, zq, zY] <;> rfl), (zb w)⟩
          ·replace c16 := Bool.eq_false_iff.mpr c16
           subst c16
           have H1 : ((zP.f kj7 ((zX l0 x12_1).f1.f0) ((zX l0 x12_1).f1.f1)).bind fun t444 => (if t444 = true then (if (((zX l0 x12_1).f2).length : Int) > 100 then (some 2) else (zW.l1 kj7 l0 l0 (l0.length : Int) x12_1 ((zX l0 x12_1).f2) (((zX l0 x12_1).f2).length : Int) 0 ((zX l0 x12_1).f0) ((zX l0 x12_1).f1.f0) ((zX l0 x12_1).f1.f1) ((zX l0 x12_1).f2))) else (some 1))) = some r := by rw [if_neg (show ¬ (false = true) by decide)] at H; exact H
           clear H
           have H := H1
           clear H1
           replace H := Option.bind_eq_some_iff.mp H
           obtain ⟨t444, A170, H⟩ := H
           try dsimp only at H
           have A17 := zQ.mk A170
           clear A170
           by_cases c18 : t444 = true
           ·subst c18
            have H1 : (if (((zX l0 x12_1).f2).length : Int) > 100 then (some 2) else (zW.l1 kj7 l0 l0 (l0.length : Int) x12_1 ((zX l0 x12_1).f2) (((zX l0 x12_1).f2).length : Int) 0 ((zX l0 x12_1).f0) ((zX l0 x12_1).f1.f0) ((zX l0 x12_1).f1.f1) ((zX l0 x12_1).f2))) = some r := by rw [if_pos rfl] at H; exact H
            clear H
            have H := H1
            clear H1
            by_cases c19 : (((zX l0 x12_1).f2).length : Int) > 100
            ·rw [if_pos c19] at H
             have c19b0 : decide (100 < (((zX l0 x12_1).f2).length : Int)) = true := decide_eq_true c19
             have c19b1 : decide (100 < ((zX l0 x12_1).f2).length) = true := decide_eq_true (by omega)
             clear c19
             obtain rfl := Option.some.inj H
             obtain ⟨hcz20_0, hcz20_1, hcz20_2, hcz20_3, hfz20_0, hfz20_1, hfz20_2, hfz20_3⟩ := cz4 BK441
             go_wp2_with (first | (go_at_call 27; (with_reducible refine (zP.calls kj7 ((zX l0 x12_1).f1.f0) ((zX l0 x12_1).f1.f1) true _ A17.out).mono ?_); rintro e w21 ⟨rfl, hb⟩; replace BK441 := bb BK441 hb; replace HB := hs w hb; (try clear hb); obtain ⟨hcz22_0, hcz22_1, hcz22_2, hcz22_3, hfz22_0, hfz22_1, hfz22_2, hfz22_3⟩ := cz4 BK441))
             repeat (go_quiet (first | (go_at_call 27; (with_reducible refine (zP.calls kj7 ((zX l0 x12_1).f1.f0) ((zX l0 x12_1).f1.f1) true _ A17.out).mono ?_); rintro e w21 ⟨rfl, hb⟩; replace BK441 := bb BK441 hb; replace HB := hs w hb; (try clear hb); obtain ⟨hcz22_0, hcz22_1, hcz22_2, hcz22_3, hfz22_0, hfz22_1, hfz22_2, hfz22_3⟩ := cz4 BK441)); try go_wp2_with (first | (go_at_call 27; (with_reducible refine (zP.calls kj7 ((zX l0 x12_1).f1.f0) ((zX l0 x12_1).f1.f1) true _ A17.out).mono ?_); rintro e w21 ⟨rfl, hb⟩; replace BK441 := bb BK441 hb; replace HB := hs w hb; (try clear hb); obtain ⟨hcz22_0, hcz22_1, hcz22_2, hcz22_3, hfz22_0, hfz22_1, hfz22_2, hfz22_3⟩ := cz4 BK441)))
             go_ret
             exact ⟨by first | rfl | (simp [zq, zY] <;> rfl) | (simp [*, zq, zY] <;> rfl), (zb w)⟩
            ·rw [if_neg c19] at H
             have c19b0 : decide (100 < (((zX l0 x12_1).f2).length : Int)) = false := decide_eq_false c19
             have c19b1 : decide (100 < ((zX l0 x12_1).f2).length) = false := decide_eq_false (by omega)
             clear c19
             have H' := zQ.mk H
             clear H
             obtain ⟨hcz23_0, hcz23_1, hcz23_2, hcz23_3, hfz23_0, hfz23_1, hfz23_2, hfz23_3⟩ := cz4 BK441
             go_wp2_with (first | (go_at_call 27; (with_reducible refine (zP.calls kj7 ((zX l0 x12_1).f1.f0) ((zX l0 x12_1).f1.f1) true _ A17.out).mono ?_); rintro e w24 ⟨rfl, hb⟩; replace BK441 := bb BK441 hb; replace HB := hs w hb; (try clear hb); obtain ⟨hcz25_0, hcz25_1, hcz25_2, hcz25_3, hfz25_0, hfz25_1, hfz25_2, hfz25_3⟩ := cz4 BK441))
             repeat (go_quiet (first | (go_at_call 27; (with_reducible refine (zP.calls kj7 ((zX l0 x12_1).f1.f0) ((zX l0 x12_1).f1.f1) true _ A17.out).mono ?_); rintro e w24 ⟨rfl, hb⟩; replace BK441 := bb BK441 hb; replace HB := hs w hb; (try clear hb); obtain ⟨hcz25_0, hcz25_1, hcz25_2, hcz25_3, hfz25_0, hfz25_1, hfz25_2, hfz25_3⟩ := cz4 BK441)); try go_wp2_with (first | (go_at_call 27; (with_reducible refine (zP.calls kj7 ((zX l0 x12_1).f1.f0) ((zX l0 x12_1).f1.f1) true _ A17.out).mono ?_); rintro e w24 ⟨rfl, hb⟩; replace BK441 := bb BK441 hb; replace HB := hs w hb; (try clear hb); obtain ⟨hcz25_0, hcz25_1, hcz25_2, hcz25_3, hfz25_0, hfz25_1, hfz25_2, hfz25_3⟩ := cz4 BK441)))
             try simp only [sq]
             go_loopg [49] kj7 (fun kq v49 w' => ∃ (x49_3 : Int), v49 = .int .i64 x49_3 ∧ zQ (zW.l1 kq l0 l0 (l0.length : Int) x12_1 ((zX l0 x12_1).f2) (((zX l0 x12_1).f2).length : Int) x49_3 ((zX l0 x12_1).f0) ((zX l0 x12_1).f1.f0) ((zX l0 x12_1).f1.f1) ((zX l0 x12_1).f2) = some r) ∧ zQ (kq ≤ kj7) ∧ zQ (w'.heap[gb441]? = some (.cells #[.int .i64 ((zX l0 x12_1).f0), .int .i64 ((zX l0 x12_1).f1.f0), .int .i64 ((zX l0 x12_1).f1.f1), (.slice A440_3 ((zX l0 x12_1).f2).length c440_3)] 72 (0, 0))) ∧ zQ (Below w.heap.size w w'))
             case atStart => exact ⟨(0), ar, H', ⟨Nat.le_refl _⟩, ⟨(zk BK441)⟩, ⟨(zb w)⟩⟩
             case round =>
              clear H'
              try clear c1
              try clear c2
              try clear c2b0
              try clear c2b1
              try clear p2
              try clear c3
              try clear c3b0
              try clear c4
              try clear c4b0
              try clear p4
              try clear q4
              try clear hx4
              try clear c5
              try clear c5b0
              try clear p6
              try clear c7
              try clear c9
              try clear c11
              try clear c11b0
              try clear c13
              try clear c13b0
              try clear c14
              try clear c14b0
              try clear c16
              try clear c18
              try clear c19
              try clear c19b0
              try clear c19b1
              try clear hcz10_0 hcz10_1 hcz10_2 hcz10_3
              try clear hcz15_0 hcz15_1 hcz15_2 hcz15_3
              try clear hcz20_0 hcz20_1 hcz20_2 hcz20_3
              try clear hcz22_0 hcz22_1 hcz22_2 hcz22_3
              try clear hcz23_0 hcz23_1 hcz23_2 hcz23_3
              try clear hcz25_0 hcz25_1 hcz25_2 hcz25_3
              try clear hfz10_0 hfz10_1 hfz10_2 hfz10_3
              try clear hfz15_0 hfz15_1 hfz15_2 hfz15_3
              try clear hfz20_0 hfz20_1 hfz20_2 hfz20_3
              try clear hfz22_0 hfz22_1 hfz22_2 hfz22_3
              try clear hfz23_0 hfz23_1 hfz23_2 hfz23_3
              try clear hfz25_0 hfz25_1 hfz25_2 hfz25_3
              try clear hx440_0
              try clear hx440_1
              try clear hx440_2
              try clear hx440_3
              try clear hx443_0
              try clear hx443_1
              try clear hx443_2
              try clear hx443_3
              try clear p2
              try clear p4
              try clear p440
              try clear p443
              try clear p6
              try clear q4
              try clear q440
              try clear q443
              obtain ⟨x49_3, rfl, HA, HK3, BK441, HB⟩ := hrel
              cases gk with
              | zero => exact absurd HA.out (by simp [zW.l1])
              | succ k3 =>
               have H := HA.out
               clear HA
               simp only [zW.l1] at H
               by_cases c26 : x49_3 < (((zX l0 x12_1).f2).length : Int)
               ·rw [if_pos c26] at H
                have c26b0 : decide (x49_3 < (((zX l0 x12_1).f2).length : Int)) = true := decide_eq_true c26
                clear c26
                by_cases c27 : 0 ≤ x49_3
                ·rw [if_pos c27] at H
                 have c27b0 : decide (0 ≤ x49_3) = true := decide_eq_true c27
                 clear c27
                 by_cases c28 : x49_3 < (((zX l0 x12_1).f2).length : Int)
                 ·rw [if_pos c28] at H
                  have c28b0 : decide (x49_3 < (((zX l0 x12_1).f2).length : Int)) = true := decide_eq_true c28
                  clear c28
                  replace H := Option.bind_eq_some_iff.mp H
                  obtain ⟨t446, A290, H⟩ := H
                  try dsimp only at H
                  have A29 := zQ.mk A290
                  clear A290
                  by_cases c30 : t446 = true
                  ·subst c30
                   have H1 : (if x49_3 ≤ (((zX l0 x12_1).f2).length : Int) then ((zN.f k3 (((zX l0 x12_1).f2).take (x49_3 : Int).toNat) (rdOf ByteArray.empty ((zX l0 x12_1).f2) x49_3)).bind fun t448 => (if t448 = true then (some 7) else (zW.l1 k3 l0 l0 (l0.length : Int) x12_1 ((zX l0 x12_1).f2) (((zX l0 x12_1).f2).length : Int) (wrap64 (x49_3 + 1)) ((zX l0 x12_1).f0) ((zX l0 x12_1).f1.f0) ((zX l0 x12_1).f1.f1) ((zX l0 x12_1).f2)))) else (none)) = some r := by rw [if_pos rfl] at H; exact H
                   clear H
                   have H := H1
                   clear H1
                   have c31b0 := eq_true (of_decide_eq_true (by assumption) : 0 ≤ x49_3)
                   by_cases c32 : x49_3 ≤ (((zX l0 x12_1).f2).length : Int)
                   ·rw [if_pos c32] at H
                    have c32b0 := eq_true c32
                    have c32b1 : decide (x49_3 ≤ (((zX l0 x12_1).f2).length : Int)) = true := decide_eq_true c32
                    clear c32
                    replace H := Option.bind_eq_some_iff.mp H
                    obtain ⟨t448, A330, H⟩ := H
                    try dsimp only at H
                    have A33 := zQ.mk A330
                    clear A330
                    by_cases c34 : t448 = true
                    ·subst c34
                     have H1 : (some 7) = some r := by rw [if_pos rfl] at H; exact H
                     clear H
                     have H := H1
                     clear H1
                     obtain rfl := Option.some.inj H
                     have p445 : 0 ≤ (x49_3 : Int) := of_decide_eq_true (by assumption)
                     have q445 : x49_3 < (((zX l0 x12_1).f2).length : Int) := of_decide_eq_true (by assumption)
                     obtain ⟨ad445, e445, hx445_0⟩ := Kd.yD HR440_3.out x49_3 p445 q445
                     cases e445
                     replace hx445_0 := hz HB hx445_0
                     replace p445 := eq_true p445
                     replace q445 := eq_true q445
                     go_wp2_with (first | (go_at_call 25; (with_reducible refine (zS.calls k3 (rdOf ByteArray.empty ((zX l0 x12_1).f2) x49_3) true _ A29.out).mono ?_); rintro e w' ⟨rfl, ⟨nd, rfl⟩⟩; (try first | exact ⟨rfl, _, World.drewN_drewN _ _ _⟩ | exact ⟨rfl, _, Eq.trans (World.drewN_drewN _ _ _) (congrArg (World.drewN _) (Nat.add_assoc _ _ _))⟩); obtain ⟨hcz35_0, hcz35_1, hcz35_2, hcz35_3, hfz35_0, hfz35_1, hfz35_2, hfz35_3⟩ := cz4 BK441; obtain ⟨i036, hi036, _, hsz36, _⟩ := info_parts zVq; obtain ⟨hcut36, hA36, hC36⟩ := xX (P := Tryz.prog) Value.string (⟨#[]⟩ : ByteArray) 70 9 .i64 Tryz.underlying70 hi036 hsz36 (some ad445) c440_3 ((zX l0 x12_1).f2) x49_3 (of_decide_eq_true (by assumption)) (of_decide_eq_true (by assumption)) HC440_3.out; have HR447 := zQ.mk (Kd.vB (h1 := fun _ => rfl) (hA36 _ (Kd.xN HR440_3.out))); have HC447 := zQ.mk hC36; clear hA36 hC36 hi036 hsz36) | (go_at_call 35; refine xY (args' := #[.slice (some ad445) (((zX l0 x12_1).f2).take (x49_3 : Int).toNat).length c440_3, .string (rdOf ByteArray.empty ((zX l0 x12_1).f2) x49_3)]) (by first | (rw [show (((zX l0 x12_1).f2).take (x49_3 : Int).toNat).length = x49_3.toNat from (by rw [List.length_take]; have h_ : (x49_3 : Int) ≤ (((zX l0 x12_1).f2).length : Int) := of_decide_eq_true (by assumption); omega)] <;> rfl) | rfl) ?_; (with_reducible refine (zN.calls k3 _ _ (((zX l0 x12_1).f2).take (x49_3 : Int).toNat) (rdOf ByteArray.empty ((zX l0 x12_1).f2) x49_3) true _ ?side1 HC447.out A33.out).mono ?_); (case side1 => repeat (first | exact (Kd.jC HR447.out (zb w)) | (with_reducible refine Kd.xK ?_ _) | (with_reducible refine Kd.xW ?_ _) | (with_reducible refine Kd.vK ?_))); rintro e w' ⟨rfl, ⟨nd, rfl⟩⟩; (try first | exact ⟨rfl, _, World.drewN_drewN _ _ _⟩ | exact ⟨rfl, _, Eq.trans (World.drewN_drewN _ _ _) (congrArg (World.drewN _) (Nat.add_assoc _ _ _))⟩)))
                     repeat (go_quiet (first | (go_at_call 25; (with_reducible refine (zS.calls k3 (rdOf ByteArray.empty ((zX l0 x12_1).f2) x49_3) true _ A29.out).mono ?_); rintro e w' ⟨rfl, ⟨nd, rfl⟩⟩; (try first | exact ⟨rfl, _, World.drewN_drewN _ _ _⟩ | exact ⟨rfl, _, Eq.trans (World.drewN_drewN _ _ _) (congrArg (World.drewN _) (Nat.add_assoc _ _ _))⟩); obtain ⟨hcz35_0, hcz35_1, hcz35_2, hcz35_3, hfz35_0, hfz35_1, hfz35_2, hfz35_3⟩ := cz4 BK441; obtain ⟨i036, hi036, _, hsz36, _⟩ := info_parts zVq; obtain ⟨hcut36, hA36, hC36⟩ := xX (P := Tryz.prog) Value.string (⟨#[]⟩ : ByteArray) 70 9 .i64 Tryz.underlying70 hi036 hsz36 (some ad445) c440_3 ((zX l0 x12_1).f2) x49_3 (of_decide_eq_true (by assumption)) (of_decide_eq_true (by assumption)) HC440_3.out; have HR447 := zQ.mk (Kd.vB (h1 := fun _ => rfl) (hA36 _ (Kd.xN HR440_3.out))); have HC447 := zQ.mk hC36; clear hA36 hC36 hi036 hsz36) | (go_at_call 35; refine xY (args' := #[.slice (some ad445) (((zX l0 x12_1).f2).take (x49_3 : Int).toNat).length c440_3, .string (rdOf ByteArray.empty ((zX l0 x12_1).f2) x49_3)]) (by first | (rw [show (((zX l0 x12_1).f2).take (x49_3 : Int).toNat).length = x49_3.toNat from (by rw [List.length_take]; have h_ : (x49_3 : Int) ≤ (((zX l0 x12_1).f2).length : Int) := of_decide_eq_true (by assumption); omega)] <;> rfl) | rfl) ?_; (with_reducible refine (zN.calls k3 _ _ (((zX l0 x12_1).f2).take (x49_3 : Int).toNat) (rdOf ByteArray.empty ((zX l0 x12_1).f2) x49_3) true _ ?side1 HC447.out A33.out).mono ?_); (case side1 => repeat (first | exact (Kd.jC HR447.out (zb w)) | (with_reducible refine Kd.xK ?_ _) | (with_reducible refine Kd.xW ?_ _) | (with_reducible refine Kd.vK ?_))); rintro e w' ⟨rfl, ⟨nd, rfl⟩⟩; (try first | exact ⟨rfl, _, World.drewN_drewN _ _ _⟩ | exact ⟨rfl, _, Eq.trans (World.drewN_drewN _ _ _) (congrArg (World.drewN _) (Nat.add_assoc _ _ _))⟩))); try go_wp2_with (first | (go_at_call 25; (with_reducible refine (zS.calls k3 (rdOf ByteArray.empty ((zX l0 x12_1).f2) x49_3) true _ A29.out).mono ?_); rintro e w' ⟨rfl, ⟨nd, rfl⟩⟩; (try first | exact ⟨rfl, _, World.drewN_drewN _ _ _⟩ | exact ⟨rfl, _, Eq.trans (World.drewN_drewN _ _ _) (congrArg (World.drewN _) (Nat.add_assoc _ _ _))⟩); obtain ⟨hcz35_0, hcz35_1, hcz35_2, hcz35_3, hfz35_0, hfz35_1, hfz35_2, hfz35_3⟩ := cz4 BK441; obtain ⟨i036, hi036, _, hsz36, _⟩ := info_parts zVq; obtain ⟨hcut36, hA36, hC36⟩ := xX (P := Tryz.prog) Value.string (⟨#[]⟩ : ByteArray) 70 9 .i64 Tryz.underlying70 hi036 hsz36 (some ad445) c440_3 ((zX l0 x12_1).f2) x49_3 (of_decide_eq_true (by assumption)) (of_decide_eq_true (by assumption)) HC440_3.out; have HR447 := zQ.mk (Kd.vB (h1 := fun _ => rfl) (hA36 _ (Kd.xN HR440_3.out))); have HC447 := zQ.mk hC36; clear hA36 hC36 hi036 hsz36) | (go_at_call 35; refine xY (args' := #[.slice (some ad445) (((zX l0 x12_1).f2).take (x49_3 : Int).toNat).length c440_3, .string (rdOf ByteArray.empty ((zX l0 x12_1).f2) x49_3)]) (by first | (rw [show (((zX l0 x12_1).f2).take (x49_3 : Int).toNat).length = x49_3.toNat from (by rw [List.length_take]; have h_ : (x49_3 : Int) ≤ (((zX l0 x12_1).f2).length : Int) := of_decide_eq_true (by assumption); omega)] <;> rfl) | rfl) ?_; (with_reducible refine (zN.calls k3 _ _ (((zX l0 x12_1).f2).take (x49_3 : Int).toNat) (rdOf ByteArray.empty ((zX l0 x12_1).f2) x49_3) true _ ?side1 HC447.out A33.out).mono ?_); (case side1 => repeat (first | exact (Kd.jC HR447.out (zb w)) | (with_reducible refine Kd.xK ?_ _) | (with_reducible refine Kd.xW ?_ _) | (with_reducible refine Kd.vK ?_))); rintro e w' ⟨rfl, ⟨nd, rfl⟩⟩; (try first | exact ⟨rfl, _, World.drewN_drewN _ _ _⟩ | exact ⟨rfl, _, Eq.trans (World.drewN_drewN _ _ _) (congrArg (World.drewN _) (Nat.add_assoc _ _ _))⟩))))
                     go_ret
                     exact ⟨by first | rfl | (simp [zq, zY] <;> rfl) | (simp [*, zq, zY] <;> rfl), (zb w)⟩
                    ·replace c34 := Bool.eq_false_iff.mpr c34
                     subst c34
                     have H1 : (zW.l1 k3 l0 l0 (l0.length : Int) x12_1 ((zX l0 x12_1).f2) (((zX l0 x12_1).f2).length : Int) (wrap64 (x49_3 + 1)) ((zX l0 x12_1).f0) ((zX l0 x12_1).f1.f0) ((zX l0 x12_1).f1.f1) ((zX l0 x12_1).f2)) = some r := by rw [if_neg (show ¬ (false = true) by decide)] at H; exact H
                     clear H
                     have H := H1
                     clear H1
                     have H' := zQ.mk H
                     clear H
                     have p445 : 0 ≤ (x49_3 : Int) := of_decide_eq_true (by assumption)
                     have q445 : x49_3 < (((zX l0 x12_1).f2).length : Int) := of_decide_eq_true (by assumption)
                     obtain ⟨ad445, e445, hx445_0⟩ := Kd.yD HR440_3.out x49_3 p445 q445
                     cases e445
                     replace hx445_0 := hz HB hx445_0
                     replace p445 := eq_true p445
                     replace q445 := eq_true q445
                     go_wp2_with (first | (go_at_call 25; (with_reducible refine (zS.calls k3 (rdOf ByteArray.empty ((zX l0 x12_1).f2) x49_3) true _ A29.out).mono ?_); rintro e w' ⟨rfl, ⟨nd, rfl⟩⟩; (try first | exact ⟨rfl, _, World.drewN_drewN _ _ _⟩ | exact ⟨rfl, _, Eq.trans (World.drewN_drewN _ _ _) (congrArg (World.drewN _) (Nat.add_assoc _ _ _))⟩); obtain ⟨hcz37_0, hcz37_1, hcz37_2, hcz37_3, hfz37_0, hfz37_1, hfz37_2, hfz37_3⟩ := cz4 BK441; obtain ⟨i038, hi038, _, hsz38, _⟩ := info_parts zVq; obtain ⟨hcut38, hA38, hC38⟩ := xX (P := Tryz.prog) Value.string (⟨#[]⟩ : ByteArray) 70 9 .i64 Tryz.underlying70 hi038 hsz38 (some ad445) c440_3 ((zX l0 x12_1).f2) x49_3 (of_decide_eq_true (by assumption)) (of_decide_eq_true (by assumption)) HC440_3.out; have HR447 := zQ.mk (Kd.vB (h1 := fun _ => rfl) (hA38 _ (Kd.xN HR440_3.out))); have HC447 := zQ.mk hC38; clear hA38 hC38 hi038 hsz38) | (go_at_call 35; refine xY (args' := #[.slice (some ad445) (((zX l0 x12_1).f2).take (x49_3 : Int).toNat).length c440_3, .string (rdOf ByteArray.empty ((zX l0 x12_1).f2) x49_3)]) (by first | (rw [show (((zX l0 x12_1).f2).take (x49_3 : Int).toNat).length = x49_3.toNat from (by rw [List.length_take]; have h_ : (x49_3 : Int) ≤ (((zX l0 x12_1).f2).length : Int) := of_decide_eq_true (by assumption); omega)] <;> rfl) | rfl) ?_; (with_reducible refine (zN.calls k3 _ _ (((zX l0 x12_1).f2).take (x49_3 : Int).toNat) (rdOf ByteArray.empty ((zX l0 x12_1).f2) x49_3) false _ ?side1 HC447.out A33.out).mono ?_); (case side1 => repeat (first | exact (Kd.jC HR447.out (zb w)) | (with_reducible refine Kd.xK ?_ _) | (with_reducible refine Kd.xW ?_ _) | (with_reducible refine Kd.vK ?_))); rintro e w' ⟨rfl, ⟨nd, rfl⟩⟩; (try first | exact ⟨rfl, _, World.drewN_drewN _ _ _⟩ | exact ⟨rfl, _, Eq.trans (World.drewN_drewN _ _ _) (congrArg (World.drewN _) (Nat.add_assoc _ _ _))⟩)))
                     repeat (go_quiet (first | (go_at_call 25; (with_reducible refine (zS.calls k3 (rdOf ByteArray.empty ((zX l0 x12_1).f2) x49_3) true _ A29.out).mono ?_); rintro e w' ⟨rfl, ⟨nd, rfl⟩⟩; (try first | exact ⟨rfl, _, World.drewN_drewN _ _ _⟩ | exact ⟨rfl, _, Eq.trans (World.drewN_drewN _ _ _) (congrArg (World.drewN _) (Nat.add_assoc _ _ _))⟩); obtain ⟨hcz37_0, hcz37_1, hcz37_2, hcz37_3, hfz37_0, hfz37_1, hfz37_2, hfz37_3⟩ := cz4 BK441; obtain ⟨i038, hi038, _, hsz38, _⟩ := info_parts zVq; obtain ⟨hcut38, hA38, hC38⟩ := xX (P := Tryz.prog) Value.string (⟨#[]⟩ : ByteArray) 70 9 .i64 Tryz.underlying70 hi038 hsz38 (some ad445) c440_3 ((zX l0 x12_1).f2) x49_3 (of_decide_eq_true (by assumption)) (of_decide_eq_true (by assumption)) HC440_3.out; have HR447 := zQ.mk (Kd.vB (h1 := fun _ => rfl) (hA38 _ (Kd.xN HR440_3.out))); have HC447 := zQ.mk hC38; clear hA38 hC38 hi038 hsz38) | (go_at_call 35; refine xY (args' := #[.slice (some ad445) (((zX l0 x12_1).f2).take (x49_3 : Int).toNat).length c440_3, .string (rdOf ByteArray.empty ((zX l0 x12_1).f2) x49_3)]) (by first | (rw [show (((zX l0 x12_1).f2).take (x49_3 : Int).toNat).length = x49_3.toNat from (by rw [List.length_take]; have h_ : (x49_3 : Int) ≤ (((zX l0 x12_1).f2).length : Int) := of_decide_eq_true (by assumption); omega)] <;> rfl) | rfl) ?_; (with_reducible refine (zN.calls k3 _ _ (((zX l0 x12_1).f2).take (x49_3 : Int).toNat) (rdOf ByteArray.empty ((zX l0 x12_1).f2) x49_3) false _ ?side1 HC447.out A33.out).mono ?_); (case side1 => repeat (first | exact (Kd.jC HR447.out (zb w)) | (with_reducible refine Kd.xK ?_ _) | (with_reducible refine Kd.xW ?_ _) | (with_reducible refine Kd.vK ?_))); rintro e w' ⟨rfl, ⟨nd, rfl⟩⟩; (try first | exact ⟨rfl, _, World.drewN_drewN _ _ _⟩ | exact ⟨rfl, _, Eq.trans (World.drewN_drewN _ _ _) (congrArg (World.drewN _) (Nat.add_assoc _ _ _))⟩))); try go_wp2_with (first | (go_at_call 25; (with_reducible refine (zS.calls k3 (rdOf ByteArray.empty ((zX l0 x12_1).f2) x49_3) true _ A29.out).mono ?_); rintro e w' ⟨rfl, ⟨nd, rfl⟩⟩; (try first | exact ⟨rfl, _, World.drewN_drewN _ _ _⟩ | exact ⟨rfl, _, Eq.trans (World.drewN_drewN _ _ _) (congrArg (World.drewN _) (Nat.add_assoc _ _ _))⟩); obtain ⟨hcz37_0, hcz37_1, hcz37_2, hcz37_3, hfz37_0, hfz37_1, hfz37_2, hfz37_3⟩ := cz4 BK441; obtain ⟨i038, hi038, _, hsz38, _⟩ := info_parts zVq; obtain ⟨hcut38, hA38, hC38⟩ := xX (P := Tryz.prog) Value.string (⟨#[]⟩ : ByteArray) 70 9 .i64 Tryz.underlying70 hi038 hsz38 (some ad445) c440_3 ((zX l0 x12_1).f2) x49_3 (of_decide_eq_true (by assumption)) (of_decide_eq_true (by assumption)) HC440_3.out; have HR447 := zQ.mk (Kd.vB (h1 := fun _ => rfl) (hA38 _ (Kd.xN HR440_3.out))); have HC447 := zQ.mk hC38; clear hA38 hC38 hi038 hsz38) | (go_at_call 35; refine xY (args' := #[.slice (some ad445) (((zX l0 x12_1).f2).take (x49_3 : Int).toNat).length c440_3, .string (rdOf ByteArray.empty ((zX l0 x12_1).f2) x49_3)]) (by first | (rw [show (((zX l0 x12_1).f2).take (x49_3 : Int).toNat).length = x49_3.toNat from (by rw [List.length_take]; have h_ : (x49_3 : Int) ≤ (((zX l0 x12_1).f2).length : Int) := of_decide_eq_true (by assumption); omega)] <;> rfl) | rfl) ?_; (with_reducible refine (zN.calls k3 _ _ (((zX l0 x12_1).f2).take (x49_3 : Int).toNat) (rdOf ByteArray.empty ((zX l0 x12_1).f2) x49_3) false _ ?side1 HC447.out A33.out).mono ?_); (case side1 => repeat (first | exact (Kd.jC HR447.out (zb w)) | (with_reducible refine Kd.xK ?_ _) | (with_reducible refine Kd.xW ?_ _) | (with_reducible refine Kd.vK ?_))); rintro e w' ⟨rfl, ⟨nd, rfl⟩⟩; (try first | exact ⟨rfl, _, World.drewN_drewN _ _ _⟩ | exact ⟨rfl, _, Eq.trans (World.drewN_drewN _ _ _) (congrArg (World.drewN _) (Nat.add_assoc _ _ _))⟩))))
                     go_roundg k3
                     case measure => have := HK1.out; have := HJ7.out; have := HK3.out; omega
                     case rel => exact ⟨(wrap64 (x49_3 + 1)), ar, H', ⟨by have := HK1.out; have := HJ7.out; have := HK3.out; omega⟩, ⟨(zk BK441)⟩, ⟨(zb w)⟩⟩
                   ·rw [if_neg c32] at H
                    exact absurd H (by simp)
                  ·replace c30 := Bool.eq_false_iff.mpr c30
                   subst c30
                   have H1 : (some 5) = some r := by rw [if_neg (show ¬ (false = true) by decide)] at H; exact H
                   clear H
                   have H := H1
                   clear H1
                   obtain rfl := Option.some.inj H
                   have p445 : 0 ≤ (x49_3 : Int) := of_decide_eq_true (by assumption)
                   have q445 : x49_3 < (((zX l0 x12_1).f2).length : Int) := of_decide_eq_true (by assumption)
                   obtain ⟨ad445, e445, hx445_0⟩ := Kd.yD HR440_3.out x49_3 p445 q445
                   cases e445
                   replace hx445_0 := hz HB hx445_0
                   replace p445 := eq_true p445
                   replace q445 := eq_true q445
                   go_wp2_with (first | (go_at_call 25; (with_reducible refine (zS.calls k3 (rdOf ByteArray.empty ((zX l0 x12_1).f2) x49_3) false _ A29.out).mono ?_); rintro e w' ⟨rfl, ⟨nd, rfl⟩⟩; (try first | exact ⟨rfl, _, World.drewN_drewN _ _ _⟩ | exact ⟨rfl, _, Eq.trans (World.drewN_drewN _ _ _) (congrArg (World.drewN _) (Nat.add_assoc _ _ _))⟩)))
                   repeat (go_quiet (first | (go_at_call 25; (with_reducible refine (zS.calls k3 (rdOf ByteArray.empty ((zX l0 x12_1).f2) x49_3) false _ A29.out).mono ?_); rintro e w' ⟨rfl, ⟨nd, rfl⟩⟩; (try first | exact ⟨rfl, _, World.drewN_drewN _ _ _⟩ | exact ⟨rfl, _, Eq.trans (World.drewN_drewN _ _ _) (congrArg (World.drewN _) (Nat.add_assoc _ _ _))⟩))); try go_wp2_with (first | (go_at_call 25; (with_reducible refine (zS.calls k3 (rdOf ByteArray.empty ((zX l0 x12_1).f2) x49_3) false _ A29.out).mono ?_); rintro e w' ⟨rfl, ⟨nd, rfl⟩⟩; (try first | exact ⟨rfl, _, World.drewN_drewN _ _ _⟩ | exact ⟨rfl, _, Eq.trans (World.drewN_drewN _ _ _) (congrArg (World.drewN _) (Nat.add_assoc _ _ _))⟩))))
                   go_ret
                   exact ⟨by first | rfl | (simp [zq, zY] <;> rfl) | (simp [*, zq, zY] <;> rfl), (zb w)⟩
                 ·rw [if_neg c28] at H
                  exact absurd H (by simp)
                ·rw [if_neg c27] at H
                 exact absurd H (by simp)
               ·rw [if_neg c26] at H
                have c26b0 : decide (x49_3 < (((zX l0 x12_1).f2).length : Int)) = false := decide_eq_false c26
                clear c26
                have H' := zQ.mk H
                clear H
                go_wp2
                repeat (go_quiet (fail); try go_wp2)
                go_roundg k3
                case measure => have := HK1.out; have := HJ7.out; have := HK3.out; omega
                case rel => exact ⟨(wrap64 (x12_1 + 1)), ar, H', ⟨by have := HK1.out; have := HJ7.out; have := HK3.out; omega⟩, ⟨(zb w)⟩⟩
           ·replace c18 := Bool.eq_false_iff.mpr c18
            subst c18
            have H1 : (some 1) = some r := by rw [if_neg (show ¬ (false = true) by decide)] at H; exact H
            clear H
            have H := H1
            clear H1
            obtain rfl := Option.some.inj H
            obtain ⟨hcz39_0, hcz39_1, hcz39_2, hcz39_3, hfz39_0, hfz39_1, hfz39_2, hfz39_3⟩ := cz4 BK441
            go_wp2_with (first | (go_at_call 27; (with_reducible refine (zP.calls kj7 ((zX l0 x12_1).f1.f0) ((zX l0 x12_1).f1.f1) false _ A17.out).mono ?_); rintro e w40 ⟨rfl, hb⟩; replace BK441 := bb BK441 hb; replace HB := hs w hb; (try clear hb)))
            repeat (go_quiet (first | (go_at_call 27; (with_reducible refine (zP.calls kj7 ((zX l0 x12_1).f1.f0) ((zX l0 x12_1).f1.f1) false _ A17.out).mono ?_); rintro e w40 ⟨rfl, hb⟩; replace BK441 := bb BK441 hb; replace HB := hs w hb; (try clear hb))); try go_wp2_with (first | (go_at_call 27; (with_reducible refine (zP.calls kj7 ((zX l0 x12_1).f1.f0) ((zX l0 x12_1).f1.f1) false _ A17.out).mono ?_); rintro e w40 ⟨rfl, hb⟩; replace BK441 := bb BK441 hb; replace HB := hs w hb; (try clear hb))))
            go_ret
            exact ⟨by first | rfl | (simp [zq, zY] <;> rfl) | (simp [*, zq, zY] <;> rfl), (zb w)⟩
       ·replace c7 := Bool.eq_false_iff.mpr c7
        subst c7
        have H1 : (some 1) = some r := by rw [if_neg (show ¬ (false = true) by decide)] at H; exact H
        clear H
        have H := H1
        clear H1
        obtain rfl := Option.some.inj H
        have p440 : 0 ≤ (x12_1 : Int) := of_decide_eq_true (by assumption)
        have q440 : x12_1 < (l0.length : Int) := of_decide_eq_true (by assumption)
        obtain ⟨ad440, A440_3, c440_3, e440, hx440_0, hx440_1, hx440_2, hx440_3, hl440_3, hi440_3⟩ := zKl HR0.out x12_1 p440 q440
        cases e440
        replace hx440_0 := hz HB hx440_0
        replace hx440_1 := hz HB hx440_1
        replace hx440_2 := hz HB hx440_2
        replace hx440_3 := hz HB hx440_3
        have HR440_3 := zQ.mk hi440_3
        have HC440_3 := zQ.mk hl440_3
        clear hi440_3 hl440_3
        replace p440 := eq_true p440
        replace q440 := eq_true q440
        go_wp2_with (first | ((with_reducible refine gD 4 rfl ?_); refine bx w 4 #[.int .i64 0, .int .i64 0, .int .i64 0, .slice none 0 0] 72 ?_; intro gb441 hg w41 hb BK441 GW441 GE441; clear HB; intro HB; clear hb hg; obtain ⟨hcz42_0, hcz42_1, hcz42_2, hcz42_3, hfz42_0, hfz42_1, hfz42_2, hfz42_3⟩ := cz4 BK441) | (go_at_call 26; (with_reducible refine (qZ.calls ((zX l0 x12_1).f0) false _ A6.out).mono ?_); rintro e w' ⟨rfl, ⟨nd, rfl⟩⟩; (try first | exact ⟨rfl, _, World.drewN_drewN _ _ _⟩ | exact ⟨rfl, _, Eq.trans (World.drewN_drewN _ _ _) (congrArg (World.drewN _) (Nat.add_assoc _ _ _))⟩)))
        repeat (go_quiet (first | ((with_reducible refine gD 4 rfl ?_); refine bx w 4 #[.int .i64 0, .int .i64 0, .int .i64 0, .slice none 0 0] 72 ?_; intro gb441 hg w41 hb BK441 GW441 GE441; clear HB; intro HB; clear hb hg; obtain ⟨hcz42_0, hcz42_1, hcz42_2, hcz42_3, hfz42_0, hfz42_1, hfz42_2, hfz42_3⟩ := cz4 BK441) | (go_at_call 26; (with_reducible refine (qZ.calls ((zX l0 x12_1).f0) false _ A6.out).mono ?_); rintro e w' ⟨rfl, ⟨nd, rfl⟩⟩; (try first | exact ⟨rfl, _, World.drewN_drewN _ _ _⟩ | exact ⟨rfl, _, Eq.trans (World.drewN_drewN _ _ _) (congrArg (World.drewN _) (Nat.add_assoc _ _ _))⟩))); try go_wp2_with (first | ((with_reducible refine gD 4 rfl ?_); refine bx w 4 #[.int .i64 0, .int .i64 0, .int .i64 0, .slice none 0 0] 72 ?_; intro gb441 hg w41 hb BK441 GW441 GE441; clear HB; intro HB; clear hb hg; obtain ⟨hcz42_0, hcz42_1, hcz42_2, hcz42_3, hfz42_0, hfz42_1, hfz42_2, hfz42_3⟩ := cz4 BK441) | (go_at_call 26; (with_reducible refine (qZ.calls ((zX l0 x12_1).f0) false _ A6.out).mono ?_); rintro e w' ⟨rfl, ⟨nd, rfl⟩⟩; (try first | exact ⟨rfl, _, World.drewN_drewN _ _ _⟩ | exact ⟨rfl, _, Eq.trans (World.drewN_drewN _ _ _) (congrArg (World.drewN _) (Nat.add_assoc _ _ _))⟩))))
        go_ret
        exact ⟨by first | rfl | (simp [zq, zY] <;> rfl) | (simp [*, zq, zY] <;> rfl), (zb w)⟩
      ·rw [if_neg c5] at H
       exact absurd H (by simp)
     ·rw [if_neg c4] at H
      exact absurd H (by simp)
    ·rw [if_neg c3] at H
     have c3b0 : decide (x12_1 < (l0.length : Int)) = false := decide_eq_false c3
     clear c3
     obtain rfl := Option.some.inj H
     go_wp2
     repeat (go_quiet (fail); try go_wp2)
     go_ret
     exact ⟨by first | rfl | (simp [zq, zY] <;> rfl) | (simp [*, zq, zY] <;> rfl), (zb w)⟩
end Go.Proofs.YtaihfoihlbileaaGreatDoor.R7
namespace Go.Proofs.YtaihfoihlbileaaGreatDoor.R7
open Go.RowKit Go.Proofs.YtaihfoihlbileaaGreatDoorW.PrintWords Go.Proofs.YtaihfoihlbileaaGreatDoorW.PrintLast Go.Proofs.YtaihfoihlbileaaGreatDoorW.PrintMore
attribute [local go_sem] vZ vY vT yZ xH xG vz vX   
end Go.Proofs.YtaihfoihlbileaaGreatDoor.R7
